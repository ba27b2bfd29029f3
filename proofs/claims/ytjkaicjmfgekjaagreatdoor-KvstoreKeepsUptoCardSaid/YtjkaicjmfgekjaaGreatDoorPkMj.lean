/-
  Mj, Mk, Ml, Mm, Mn, Mo
-/
import Derived.Test.YtjkaicjmfgekjaaGreatDoorPkMe
set_option linter.all false
set_option maxRecDepth 100000
set_option maxHeartbeats 4000000
namespace Go.Proofs.YtjkaicjmfgekjaaGreatDoor
open Go.Proofs.Tryz
attribute [local irreducible] RD RS AA RL RA RT Cz Ai AC DQ Cp BH Bz B4 Cb D4 Cj itemsN BW AO Br BK Gr AP A4 Ar Ck As A1 Ay A5 EM AW AK Cy setM
section
attribute [local irreducible] DT
section
variable {ml :List Ab}{v:MV}{a b:AT}{ms:List Ab}{cl:List Ag}
theorem Vu {n : Int} : (cl.filter (EQ a)).foldl (SX b) n = if b = a then n else cl.foldl (SX b) n := by
  induction cl generalizing n with
  | nil => simp
  | cons x cl ih =>
    rw [AbK]
    by_cases hx : x.a = a
    · rw [if_neg (by simp [EQ, hx]), ih]
      split
      · rfl
      · rename_i hb
        rw [AaI, Nm (fun e => hb (e.symm.trans hx))]
    · rw [if_pos (by simp [EQ, hx]), AaI, ih, AaI]
      split
      · rename_i hb; rw [Nm (fun e => hx (e.trans hb))]
      · rfl
theorem topX_prune :EW (ms.filter (EK a)) (cl.filter (EQ a)) b=if b=a then 0 else EW ms cl b:=by
 rw[EW,Vu,EW]
 split
 ·rename_i e;rw[e];exact mkN_out
 ·rename_i e;rw[Nn e]
theorem MC {b : AT} : ∀ {ml : List Ab} {v : MV}, EW (Ao ml v).mrk (Ao ml v).cl b = 0 ∨ EW (Ao ml v).mrk (Ao ml v).cl b = EW v.mrk v.cl b
  | [], v => .inr rfl
  | m :: l, v => by
    have e : EW (Ax v (AZ m)).mrk (Ax v (AZ m)).cl b = if b = AZ m then 0 else EW v.mrk v.cl b := topX_prune
    rcases MC (ml := l) (v := Ax v (AZ m)) (b := b) with h | h
    · exact .inl h
    · rw [e] at h
      split at h
      · exact .inl h
      · exact .inr h
theorem cleanN_iff :Cm ml v=0↔∀m∈ml,¬m.count<EW v.mrk v.cl (AZ m):=by
 unfold Cm
 split
 ·rename_i h
  rw[Aa9]at h
  obtain⟨m,hm,h⟩:=h
  constructor
  ·intro e;cases e
  ·intro e;exact absurd (by simpa using h) (e m hm)
 ·rename_i h
  rw[Aa9]at h
  exact⟨fun _ m hm c=>h ⟨m,hm,by simpa using c⟩,fun _=>rfl⟩
theorem Np (hM:∀m∈ml,AC (Ab.d m))(h:Cm ml v=0):Cm ml (Ao ml v)=0:=by
 rw[cleanN_iff]at h⊢
 intro m hm
 have h1:=h m hm
 have h2:=hM m hm
 simp only[AC,Ab.d]at h2
 rcases MC (ml:=ml) (v:=v) (b:=AZ m)with e|e<;>rw[e]<;>omega
theorem prune_prune :Ax (Ax v a) a=Ax v a:=by
 unfold Ax
 simp only[Aca,Bool.and_self]
theorem prune_comm :Ax (Ax v a) b=Ax (Ax v b) a:=by
 unfold Ax
 simp only[Aca,Bool.and_comm]
theorem S6 (h:Fr v.ent):Fr (Ax v a).ent:=fun x hx=>h x (List.mem_filter.1 hx).1
theorem S7 (k:JT v):JT (Ax v a):=⟨Aaa (AaT ..) k.ent,Aaa (AaT ..) k.mrk,Aaa (AaT ..) k.cl,Aal _,Aal _,Aal _⟩
theorem Fu {m:Ab}{l:List Ab}:Ao (m::l) v=Ao l (Ax v (AZ m)):=rfl
attribute [local irreducible] Ax Ao
theorem clean_nil :Ao [] v=v:=by with_unfolding_all rfl
theorem clean_prune :Ax (Ao ml v) a=Ao ml (Ax v a):=by
 induction ml generalizing v with
 |nil=>rw[clean_nil,clean_nil]
 |cons m l ih=>rw[Fu,ih,Fu,prune_comm]
theorem S8 {m : Ab} (h : m ∈ ml) : Ax (Ao ml v) (AZ m) = Ao ml v := by
  induction ml generalizing v with
  | nil => cases h
  | cons x l ih =>
    rw [Fu]
    rcases List.mem_cons.1 h with rfl | h
    · rw [clean_prune, prune_prune]
    · exact ih h
theorem S9 (h : ∀ m ∈ ml, Ax v (AZ m) = v) : Ao ml v = v := by
  induction ml with
  | nil => exact clean_nil
  | cons x l ih =>
    rw [Fu, h x AaU]
    exact ih fun m hm => h m (AaB _ hm)
theorem clean_clean :Ao ml (Ao ml v)=Ao ml v:=S9 fun _=>S8
theorem Ta (h:Fr v.ent)(k:JT v):Fr (Ao ml v).ent∧JT (Ao ml v):=by
 induction ml generalizing v with
 |nil=>rw[clean_nil];exact⟨h,k⟩
 |cons x l ih=>rw[Fu];exact ih (S6 h) (S7 k)
end
structure FK (s:KF):Prop where
 c:∀key v,s.c key=some v->AP key=true
 h:∀x,s.h x->(0<=x.owner∧x.owner<8)∧AP x.key=true
theorem FK.app {s : KF} {r : Dt} (h : FK s) (hr : Ly s r) : FK (EL s r) := by
  cases r with
  | o n => exact ⟨h.c, h.h⟩
  | j key v =>
    refine ⟨fun k u hk => ?_, h.h⟩
    by_cases e : k = key
    · rw [e]; exact hr.1
    · exact h.c k u (by rw [<- hk]; exact (Ei e).symm)
  | d key =>
    refine ⟨fun k u hk => ?_, h.h⟩
    by_cases e : k = key
    · rw [e]; exact hr
    · exact h.c k u (by rw [<- hk]; exact (Ei e).symm)
  | h x => exact ⟨h.c, fun y hy => hy.elim (fun e => e ▸ hr) (h.h y)⟩
  | u x => exact ⟨h.c, fun y hy => h.h y hy.2⟩
  | r key m =>
    refine ⟨fun k u hk => ?_, h.h⟩
    by_cases e : k = key
    · rw [e]; exact hr.1
    · exact h.c k u (by rw [<- hk]; exact (Ei e).symm)
def Gn (w:World)(b d:Nat)(Z:Nat->Prop)(pl:List PF)(s:KF)(w':World):Prop:=
 ∃(Z':Nat->Prop) (pl':List PF) (s':KF),GN w' b d Z' pl' s'∧AL w Z Z'∧Ad Z w w'∧((s'=s∧pl'=pl)∨∃r,Ly s r∧s'.st=s.st∧s'=EL s r∧pl'=(Ay 4194304 pl (encK r)).2)
section
variable {w w':World}{b d lg m1 m2 m3:Nat}{F F' Z S:Nat->Prop}{st:Int}{pl pl':List PF}{ts ts':List Kc}{ks ks':List Km}{hs hs':List AH}{s:KF}{key:ByteArray}
theorem Tb {κ:Type}[DecidableEq κ]{ps:List (κ×Value)}{k:κ}(h:BO ps k=none):∀p∈ps,p.1≠k:=by
 intro p hp e
 rw[BO,Option.map_eq_none_iff,Abe]at h
 exact h p hp (by simpa using e.symm)
theorem Gp (h:H1 w b d lg m1 m2 m3 F pl st ts ks hs):(ts.map fun y=>(Kc.kv y).1).Nodup:=by
 have:=h.mc.nodup;rw[Aat]at this;exact this
theorem Lk (h:H1 w b d lg m1 m2 m3 F pl st ts ks hs):(ks.map fun y=>(Km.kv y).1).Nodup:=by
 have:=h.mm.nodup;rw[Aat]at this;exact this
theorem ID (h:H1 w b d lg m1 m2 m3 F pl st ts ks hs):(hs.map fun y=>(J2 y).1).Nodup:=by
 have:=h.mh.nodup;rw[Aat]at this;exact this
theorem H1.lookC (h : H1 w b d lg m1 m2 m3 F pl st ts ks hs) (T : Dl s st ts ks hs) (key : ByteArray) : ∃ o : Option Kc, BO (ts.map Kc.kv) key = o.map (fun t => (Kc.kv t).2) ∧ (∀ t, o = some t -> t ∈ ts ∧ t.key = key) ∧ s.c key = o.map (·.v) := by
  cases e : BO (ts.map Kc.kv) key with
  | none =>
    refine ⟨none, rfl, fun t ht => (nomatch ht), ?_⟩
    cases hc : s.c key with
    | none => rfl
    | some v =>
      obtain ⟨t, ht, hk, -⟩ := (T.c key v).1 hc
      exact absurd hk (Tb e _ (List.mem_map.2 ⟨t, ht, rfl⟩))
  | some v =>
    obtain ⟨t, ht, hk, hv⟩ := Rw e
    refine ⟨some t, by rw [<- hv]; rfl, fun t' ht' => ?_, ?_⟩
    · obtain rfl := Option.some.inj ht'; exact ⟨ht, hk⟩
    · exact (T.c key t.v).2 ⟨t, ht, hk, rfl⟩
theorem H1.lookM (h:H1 w b d lg m1 m2 m3 F pl st ts ks hs)(T:Dl s st ts ks hs)(key:ByteArray):∃(ma:Option Addr) (mc:Nat),(BO (ks.map Km.kv) key).getD (.slice none 0 0)= .slice ma (s.m key).length mc∧Av w ma (s.m key)∧(∀x,ma=some x->s.m key≠ []->¬Ca b m1 m2 m3 F x.block)∧(s.m key).Pairwise BH∧(∀x∈s.m key,AC (Ab.d x))∧(s.m key).length<=1000:=by
 rcases T.m key with⟨k,hk,rfl,e⟩|⟨hno,e⟩
 ·obtain⟨h1,h2,h3,h4,h5⟩:=h.mark k hk
  refine⟨k.a,k.c,?_,e▸h1,e▸h2,e▸h3,e▸h4,e▸h5.1⟩
  have:=S4 (kv:=Km.kv) (Lk h) hk
  rw[show(Km.kv k).1=k.key from rfl]at this
  rw[this,e];rfl
 ·rw[e]
  refine⟨none,0,?_,Av.nil _ _,fun x hx=>(nomatch hx),List.Pairwise.nil,fun x hx=>(nomatch hx),Aal _⟩
  rw[P9 (kv:=Km.kv) (fun y hy=>hno y hy)];rfl
theorem Dl.same (T:Dl s st ts ks hs):Dl s st ts ks hs:=T
theorem Dl.put {x:Kc}(T:Dl s st ts ks hs)(hx:∀y,y∈ts'↔y=x∨(y∈ts∧y.key≠x.key)):Dl ⟨s.st,GO s.c x.key (some x.v),s.m,s.h⟩ st ts' ks hs:=by
 refine⟨T.st,fun key v=> ?_,T.m,T.h⟩
 show GO s.c x.key (some x.v) key=some v↔_
 by_cases e:key=x.key
 ·subst e
  rw[E4]
  constructor
  ·intro h;exact⟨x,(hx x).2 (.inl rfl),rfl,Option.some.inj h⟩
  ·rintro⟨t,ht,hk,rfl⟩
   rcases (hx t).1 ht with rfl|⟨-,hne⟩
   ·rfl
   ·exact absurd hk hne
 ·rw[Ei e,T.c]
  constructor
  ·rintro⟨t,ht,hk,hv⟩;exact⟨t,(hx t).2 (.inr ⟨ht,fun e2=>e (hk.symm.trans e2)⟩),hk,hv⟩
  ·rintro⟨t,ht,hk,hv⟩
   rcases (hx t).1 ht with rfl|⟨h,-⟩
   ·exact absurd hk.symm e
   ·exact⟨t,h,hk,hv⟩
theorem Dl.del (T:Dl s st ts ks hs)(hx:∀y,y∈ts'↔y∈ts∧y.key≠key):Dl ⟨s.st,GO s.c key none,s.m,s.h⟩ st ts' ks hs:=by
 refine⟨T.st,fun k v=> ?_,T.m,T.h⟩
 show GO s.c key none k=some v↔_
 by_cases e:k=key
 ·subst e
  rw[E4]
  constructor
  ·intro h;cases h
  ·rintro⟨t,ht,hk,-⟩;exact absurd hk ((hx t).1 ht).2
 ·rw[Ei e,T.c]
  constructor
  ·rintro⟨t,ht,hk,hv⟩;exact⟨t,(hx t).2 ⟨ht,fun e2=>e (hk.symm.trans e2)⟩,hk,hv⟩
  ·rintro⟨t,ht,hk,hv⟩;exact⟨t,((hx t).1 ht).1,hk,hv⟩
end
end
section
attribute [local irreducible] DT Ax Ao
section
variable {w w':World}{b d lg m1 m2 m3:Nat}{F F' Z S:Nat->Prop}{st:Int}{pl pl':List PF}{ts ts':List Kc}{ks ks':List Km}{hs hs':List AH}{s:KF}{key:ByteArray}
theorem Gn.none {Z':Nat->Prop}(h:GN w' b d Z' pl s)(hm:AL w Z Z')(k:Ad Z w w'):Gn w b d Z pl s w':=⟨Z',pl,s,h,hm,k,.inl ⟨rfl,rfl⟩⟩
theorem C2 {q:Nat}(h:Ca b m1 m2 m3 F q):EY b lg m1 m2 m3 F ts ks q:= .inl h
theorem gi (h:GN w b d Z pl s)(hL:A2 w){v:MV}{sx:Ge}(hks:key.size<=4294967295)(hR:Bf w sx v)(hok:Bl v sx)(hap:∀q,BE sx v q->¬Z q)(happ:∀r,Ly s r->(Ay 4194304 pl (encK r)).1=0):
  Calls prog 9 #[jp b,.string key,.agg #[.slice sx.ea v.ent.length sx.ec,.slice sx.ma v.mrk.length sx.mc,.slice sx.ca v.cl.length sx.cc]] w (AN fun _ w'=>Gn w b d Z pl s w'):=by
 obtain⟨lg,m1,m2,m3,F,st,ts,ks,hs,rfl,H,T⟩:=h
 have hL7:7<=w.heap.size:=hL.size
 obtain⟨o,hget,ho,hco⟩:=H.lookC T key
 obtain⟨ma,mc,hgm,hms,hapM,hsort,hmay,hlen⟩:=H.lookM T key
 obtain⟨n1,n2,n3,n4,n5,n6,n7,n8,n9,n10⟩:=H.ne
 obtain⟨f1,f2,f3,f4,f5⟩:=H.nf
 have hft:∀q,F q∨(q=b∨q=m1)->Ca b m1 m2 m3 F q:=fun q hq=>hq.imp id fun e=>e.imp id .inl
 have happ':AP key=true->EJ v=0->Cm (s.m key) v=0->wN (o.map (·.v)) (Ao (s.m key) v)=0->Ly s (.j key (Ao (s.m key) v)):=fun x1 x2 x3 x4=>by
  obtain⟨y1,y2⟩:=Ta (ml:=s.m key) hok.ent hok.ok
  refine⟨x1,HZ x2,y1,y2,Np hmay x3,?_⟩
  rw[clean_clean,hco];exact x4
 refine(YW b lg m1 m2 m3 d F st pl _ o _ ma (s.m key) mc key v sx w hks H.blk H.log H.disk H.mc H.mm hgm hms hlen (fun x hx hn e=>hapM x hx hn (hft _ e)) hL (fun q hq=>H.ge q (.inl hq)) (H.ge b (.inr (.inl rfl))) (H.ge m1 (.inr (.inr (.inl rfl)))) n1 n2 n4 n5 n9 f1 f2 f3 f5 hget
  (fun t ht=>⟨(H.cart t (ho t ht).1).1,(H.cart t (ho t ht).1).2.1,fun q hq e=>(H.cart t (ho t ht).1).2.2 q hq (hft q e)⟩) hR hok (fun q hq e=>hap q hq (C2 (hft q e))) (fun x1 x2 x3 x4=>happ _ (happ' x1 x2 x3 x4))).mono fun e w' hh=> ?_
 obtain⟨r,rfl,hb,K,hcase⟩:=hh
 refine⟨r,rfl,?_⟩
 have K':Ad (Ca b m1 m2 m3 F) w w':=K.mono fun q _ hq=>hft q hq
 have KZ:Ad (EY b lg m1 m2 m3 F ts ks) w w':=K'.mono fun q _ hq=>C2 hq
 have hMh:At w' m2 (hs.map J2):=H.mh.kO K fun q (e:q=m2) (hq:F q∨(q=b∨q=m1))=>by subst e;rcases hq with x|x|x<;>first|exact f4 x|omega
 have hMm:At w' m3 (ks.map Km.kv):=H.mm.kO K fun q (e:q=m3) (hq:F q∨(q=b∨q=m1))=>by subst e;rcases hq with x|x|x<;>first|exact f5 x|omega
 rcases hcase with⟨hD,hM⟩|⟨x1,x2,x3,x4,F',s2,hD,hm,hR2,hok2,hg,hF,hM⟩
 ·obtain⟨a,c⟩:=H.step hL7 K' hb hD (AL.refl w F) hM hMh hMm (fun t ht=> .inl ht) (fun x hx=> .inl hx)
  exact Gn.none ⟨lg,m1,m2,m3,F,st,ts,ks,hs,rfl,a,T⟩ c KZ
 ·obtain⟨ts',e,hts⟩:=DA (kv:=Kc.kv) (x:=⟨key,_,s2⟩) (Gp H)
  have hM':At w' m1 (ts'.map Kc.kv):=e▸hM
  obtain⟨a,c⟩:=H.step hL7 K' hb hD hm hM' hMh hMm (fun t ht=>((hts t).1 ht).elim (fun e=> .inr (e▸⟨hR2,hok2,hg,hF⟩)) (fun e=> .inl e.1)) (fun x hx=> .inl hx)
  have T':=T.put hts
  refine⟨_,_,EL s (.j key (Ao (s.m key) v)),⟨lg,m1,m2,m3,F',st,ts',ks,hs,rfl,a,?_⟩,c,KZ,.inr ⟨_,happ' x1 x2 x3 x4,rfl,rfl,rfl⟩⟩
  rw[EL,clean_clean,hco];exact T'
theorem XT (h:GN w b d Z pl s)(hG:FK s)(hL:A2 w)(happ:∀r,Ly s r->(Ay 4194304 pl (encK r)).1=0):
  Calls prog 46 #[jp b,.string key] w (AN fun _ w'=>Gn w b d Z pl s w'):=by
 obtain⟨lg,m1,m2,m3,F,st,ts,ks,hs,rfl,H,T⟩:=h
 have hL7:7<=w.heap.size:=hL.size
 obtain⟨o,hget,ho,hco⟩:=H.lookC T key
 obtain⟨n1,n2,n3,n4,n5,n6,n7,n8,n9,n10⟩:=H.ne
 obtain⟨f1,f2,f3,f4,f5⟩:=H.nf
 have hft:∀q,F q∨(q=b∨q=m1)->Ca b m1 m2 m3 F q:=fun q hq=>hq.imp id fun e=>e.imp id .inl
 have hnm:o.isSome=true->AP key=true:=fun hx=>by
  obtain⟨t,ht⟩:=Option.isSome_iff_exists.1 hx
  exact hG.c key t.v (by rw[hco,ht];rfl)
 refine(Xe b lg m1 m2 m3 d F st pl _ o key w (fun hx=>Bt (hnm hx)) H.blk H.log H.disk H.mc hL (fun q hq=>H.ge q (.inl hq)) (H.ge b (.inr (.inl rfl))) (H.ge m1 (.inr (.inr (.inl rfl)))) n1 n2 n4 n5 n9 f1 f2 f3 f5 hget
  (fun t ht=>⟨(H.cart t (ho t ht).1).1,(H.cart t (ho t ht).1).2.1,fun q hq e=>(H.cart t (ho t ht).1).2.2 q hq (hft q e)⟩) (fun hx=>happ (.d key) (hnm hx))).mono fun e w' hh=> ?_
 obtain⟨r,rfl,hb,K,hcase⟩:=hh
 refine⟨r,rfl,?_⟩
 have K':Ad (Ca b m1 m2 m3 F) w w':=K.mono fun q _ hq=>hft q hq
 have KZ:Ad (EY b lg m1 m2 m3 F ts ks) w w':=K'.mono fun q _ hq=>C2 hq
 have hMh:At w' m2 (hs.map J2):=H.mh.kO K fun q (e:q=m2) (hq:F q∨(q=b∨q=m1))=>by subst e;rcases hq with x|x|x<;>first|exact f4 x|omega
 have hMm:At w' m3 (ks.map Km.kv):=H.mm.kO K fun q (e:q=m3) (hq:F q∨(q=b∨q=m1))=>by subst e;rcases hq with x|x|x<;>first|exact f5 x|omega
 rcases hcase with⟨hD,hM⟩|⟨hx,F',hD,hm,hM⟩
 ·obtain⟨a,c⟩:=H.step hL7 K' hb hD (AL.refl w F) hM hMh hMm (fun t ht=> .inl ht) (fun x hx=> .inl hx)
  exact Gn.none ⟨lg,m1,m2,m3,F,st,ts,ks,hs,rfl,a,T⟩ c KZ
 ·obtain⟨ts',e,hts⟩:=Hs (kv:=Kc.kv) (key:=key) (Gp H)
  have hM':At w' m1 (ts'.map Kc.kv):=e▸hM
  obtain⟨a,c⟩:=H.step hL7 K' hb hD hm hM' hMh hMm (fun t ht=> .inl ((hts t).1 ht).1) (fun x hx=> .inl hx)
  exact⟨_,_,EL s (.d key),⟨lg,m1,m2,m3,F',st,ts',ks,hs,rfl,a,T.del hts⟩,c,KZ,.inr ⟨.d key,hnm hx,rfl,rfl,rfl⟩⟩
theorem Dl.hint (T:Dl s st ts ks hs){P:AH->Prop}(hx:∀y,P y↔y∈hs'):Dl ⟨s.st,s.c,s.m,P⟩ st ts ks hs':=⟨T.st,T.c,T.m,hx⟩
theorem H1.lookH (h : H1 w b d lg m1 m2 m3 F pl st ts ks hs) (T : Dl s st ts ks hs) (x : AH) : ∃ th : Bool, BO (hs.map J2) x = (if th = true then some (.agg #[]) else none) ∧ (th = true -> s.h x) := by
  cases e : BO (hs.map J2) x with
  | none => exact ⟨false, rfl, fun h => nomatch h⟩
  | some v =>
    obtain ⟨y, hy, hk, hv⟩ := Rw e
    refine ⟨true, by rw [<- hv]; rfl, fun _ => (T.h x).2 ?_⟩
    rw [<- show y = x from hk]; exact hy
theorem MD (H:H1 w b d lg m1 m2 m3 F pl st ts ks hs)(T:Dl s st ts ks hs)(hL7:7<=w.heap.size){r:Dt}{ps':List (AH×Value)}{ok:Prop}(hb:AB w' b [.int .i32 0,.int .u32 0,jp lg,.int .i64 st,.map (some m1),.map (some m2),.map (some m3)] 94)(K:Ad (fun q_=>F q_∨(q_=b∨q_=m2)) w w')
  (hcase:(AG w' d F 4194304 pl∧At w' m2 (hs.map J2))∨(ok∧∃F',AG w' d F' 4194304 (Ay 4194304 pl (encK r)).2∧AL w F F'∧At w' m2 ps')) (hr:ok->Ly s r) (hst:(EL s r).st=s.st) (hps:∃hs',ps'=hs'.map J2∧Dl (EL s r) st ts ks hs'):Gn w b d (EY b lg m1 m2 m3 F ts ks) pl s w':=by
 obtain⟨n1,n2,n3,n4,n5,n6,n7,n8,n9,n10⟩:=H.ne
 obtain⟨f1,f2,f3,f4,f5⟩:=H.nf
 have hft:∀q,F q∨(q=b∨q=m2)->Ca b m1 m2 m3 F q:=fun q hq=>hq.imp id fun e=>e.imp id fun e=> .inr (.inl e)
 have K':Ad (Ca b m1 m2 m3 F) w w':=K.mono fun q _ hq=>hft q hq
 have KZ:Ad (EY b lg m1 m2 m3 F ts ks) w w':=K'.mono fun q _ hq=>C2 hq
 have hMc:At w' m1 (ts.map Kc.kv):=H.mc.kO K fun q (e:q=m1) (hq:F q∨(q=b∨q=m2))=>by subst e;rcases hq with x|x|x<;>first|exact f3 x|omega
 have hMm:At w' m3 (ks.map Km.kv):=H.mm.kO K fun q (e:q=m3) (hq:F q∨(q=b∨q=m2))=>by subst e;rcases hq with x|x|x<;>first|exact f5 x|omega
 rcases hcase with⟨hD,hM⟩|⟨hx,F',hD,hm,hM⟩
 ·obtain⟨a,c⟩:=H.step hL7 K' hb hD (AL.refl w F) hMc hM hMm (fun t ht=> .inl ht) (fun x hx=> .inl hx)
  exact Gn.none ⟨lg,m1,m2,m3,F,st,ts,ks,hs,rfl,a,T⟩ c KZ
 ·obtain⟨hs',rfl,T'⟩:=hps
  obtain⟨a,c⟩:=H.step hL7 K' hb hD hm hMc hM hMm (fun t ht=> .inl ht) (fun x hx=> .inl hx)
  exact⟨_,_,EL s r,⟨lg,m1,m2,m3,F',st,ts,ks,hs',rfl,a,T'⟩,c,KZ,.inr ⟨r,hr hx,hst,rfl,rfl⟩⟩
theorem XU {x:AH}(h:GN w b d Z pl s)(hL:A2 w)(hks:x.key.size<=4294967295)(happ:∀r,Ly s r->(Ay 4194304 pl (encK r)).1=0):
  Calls prog 47 #[jp b,.agg #[.int .i64 x.owner,.string x.key]] w (AN fun _ w'=>Gn w b d Z pl s w'):=by
 obtain⟨lg,m1,m2,m3,F,st,ts,ks,hs,rfl,H,T⟩:=h
 have hL7:7<=w.heap.size:=hL.size
 obtain⟨th,hget,hth⟩:=H.lookH T x
 obtain⟨n1,n2,n3,n4,n5,n6,n7,n8,n9,n10⟩:=H.ne
 obtain⟨f1,f2,f3,f4,f5⟩:=H.nf
 refine(Xf b lg m1 m2 m3 d F st pl _ th x w hks H.blk H.log H.disk H.mh hL (fun q hq=>H.ge q (.inl hq)) (H.ge b (.inr (.inl rfl))) (H.ge m2 (.inr (.inr (.inr (.inl rfl))))) n1 n3 n6 f1 f2 f4 hget (fun x1 x2=>happ (.h x) ⟨x1,x2⟩)).mono fun e w' hh=> ?_
 obtain⟨r,rfl,hb,K,hcase⟩:=hh
 refine⟨r,rfl,MD (r:= .h x) (ok:=Ly s (.h x)) H T hL7 hb K (hcase.imp id fun⟨y1,y2,y3⟩=>⟨⟨y1,y2⟩,y3⟩) (fun e=>e) rfl ?_⟩
 obtain⟨hs',e,hhs⟩:=DA (kv:=J2) (x:=x) (ID H)
 refine⟨hs',e,T.hint fun y=> ?_⟩
 rw[hhs,T.h]
 by_cases c:y=x
 ·simp[c]
 ·exact⟨fun k=> .inr ⟨k.resolve_left c,c⟩,fun k=> .inr (k.resolve_left c).1⟩
theorem Rx {x:AH}(h:GN w b d Z pl s)(hG:FK s)(hL:A2 w)(happ:∀r,Ly s r->(Ay 4194304 pl (encK r)).1=0):
  Calls prog 48 #[jp b,.agg #[.int .i64 x.owner,.string x.key]] w (AN fun _ w'=>Gn w b d Z pl s w'):=by
 obtain⟨lg,m1,m2,m3,F,st,ts,ks,hs,rfl,H,T⟩:=h
 have hL7:7<=w.heap.size:=hL.size
 obtain⟨th,hget,hth⟩:=H.lookH T x
 obtain⟨n1,n2,n3,n4,n5,n6,n7,n8,n9,n10⟩:=H.ne
 obtain⟨f1,f2,f3,f4,f5⟩:=H.nf
 have hok:th=true->Ly s (.u x):=fun e=>hG.h x (hth e)
 refine(S5 b lg m1 m2 m3 d F st pl _ th x w (fun e=>⟨Bt (hok e).2,(hok e).1⟩) H.blk H.log H.disk H.mh hL (fun q hq=>H.ge q (.inl hq)) (H.ge b (.inr (.inl rfl))) (H.ge m2 (.inr (.inr (.inr (.inl rfl))))) n1 n3 n6 f1 f2 f4 hget (fun e=>happ (.u x) (hok e))).mono fun e w' hh=> ?_
 obtain⟨r,rfl,hb,K,hcase⟩:=hh
 refine⟨r,rfl,MD (r:= .u x) H T hL7 hb K hcase hok rfl ?_⟩
 obtain⟨hs',e,hhs⟩:=Hs (kv:=J2) (key:=x) (ID H)
 refine⟨hs',e,T.hint fun y=> ?_⟩
 rw[hhs,T.h]
 exact and_comm
theorem Dl.mark {x:Km}(T:Dl s st ts ks hs)(hx:∀y,y∈ks'↔y=x∨(y∈ks∧y.key≠x.key)):Dl ⟨s.st,s.c,GO s.m x.key x.l,s.h⟩ st ts ks' hs:=by
 refine⟨T.st,T.c,fun k=> ?_,T.h⟩
 show(∃y∈ks',y.key=k∧GO s.m x.key x.l k=y.l)∨((∀y∈ks',y.key≠k)∧GO s.m x.key x.l k=[])
 by_cases e:k=x.key
 ·subst e;rw[E4];exact .inl ⟨x,(hx x).2 (.inl rfl),rfl,rfl⟩
 ·rw[Ei e]
  rcases T.m k with⟨y,hy,hk,h⟩|⟨hno,h⟩
  ·exact .inl ⟨y,(hx y).2 (.inr ⟨hy,fun e2=>e (hk.symm.trans e2)⟩),hk,h⟩
  ·refine .inr ⟨fun y hy=> ?_,h⟩
   rcases (hx y).1 hy with rfl|⟨hy,-⟩
   ·exact fun e2=>e e2.symm
   ·exact hno y hy
theorem gj {m:Ab}(h:GN w b d Z pl s)(hL:A2 w)(hks:key.size<=4294967295)(hm9:∀k,(s.m k).length<1000)(happ:∀r,Ly s r->(Ay 4194304 pl (encK r)).1=0):
  Calls prog 49 #[jp b,.string key,.agg #[.int .i64 m.node,.int .i64 m.life,.int .i64 m.count]] w (AN fun _ w'=>Gn w b d Z pl s w'):=by
 obtain⟨lg,m1,m2,m3,F,st,ts,ks,hs,rfl,H,T⟩:=h
 have hL7:7<=w.heap.size:=hL.size
 obtain⟨o,hget,ho,hco⟩:=H.lookC T key
 obtain⟨ma,mc,hgm,hms,hapM,hsort,hmay,hlen⟩:=H.lookM T key
 obtain⟨n1,n2,n3,n4,n5,n6,n7,n8,n9,n10⟩:=H.ne
 obtain⟨f1,f2,f3,f4,f5⟩:=H.nf
 have hft:∀q,F q∨(q=b∨(q=m1∨q=m3))->Ca b m1 m2 m3 F q:=fun q hq=>hq.imp id fun e=>e.imp id fun e=>e.imp id .inr
 have hok:AP key=true->AC (Ab.d m)->(∀x∈s.m key,AZ x≠AZ m)->Ly s (.r key m):=fun x1 x2 x3=>⟨x1,x2,x3,hm9 key⟩
 refine(YX b lg m1 m2 m3 d F st pl _ o _ ma (s.m key) mc key m w hks H.blk H.log H.disk H.mc H.mm hgm hms hlen (fun x hx hn e=>hapM x hx hn (hft _ e)) (H.ge m3 (.inr (.inr (.inr (.inr rfl))))) n7 hsort hmay (hm9 key) hL (fun q hq=>H.ge q (.inl hq)) (H.ge b (.inr (.inl rfl))) (H.ge m1 (.inr (.inr (.inl rfl)))) n1 n2 n4 n5 n9 f1 f2 f3 f5 hget
  (fun t ht=>⟨(H.cart t (ho t ht).1).1,(H.cart t (ho t ht).1).2.1,fun q hq e=>(H.cart t (ho t ht).1).2.2 q hq (hft q e)⟩) (fun x1 x2 x3=>happ _ (hok x1 x2 x3))).mono fun e w' hh=> ?_
 obtain⟨r,rfl,hb,K,hcase⟩:=hh
 refine⟨r,rfl,?_⟩
 have K':Ad (Ca b m1 m2 m3 F) w w':=K.mono fun q _ hq=>hft q hq
 have KZ:Ad (EY b lg m1 m2 m3 F ts ks) w w':=K'.mono fun q _ hq=>C2 hq
 have hMh:At w' m2 (hs.map J2):=H.mh.kO K fun q (e:q=m2) (hq:F q∨(q=b∨(q=m1∨q=m3)))=>by subst e;rcases hq with x|x|x|x<;>first|exact f4 x|omega
 rcases hcase with⟨hD,hM,hMm⟩|⟨⟨x1,x2,x3⟩,F',a',c',hD,hm,hMm,hS,hga,hFa,hcs⟩
 ·obtain⟨a,c⟩:=H.step hL7 K' hb hD (AL.refl w F) hM hMh hMm (fun t ht=> .inl ht) (fun x hx=> .inl hx)
  exact Gn.none ⟨lg,m1,m2,m3,F,st,ts,ks,hs,rfl,a,T⟩ c KZ
 ·obtain⟨ks',e,hks'⟩:=DA (kv:=Km.kv) (x:=⟨key,a',c',setM (s.m key) (Ab.d m)⟩) (Lk H)
  have hMm':At w' m3 (ks'.map Km.kv):=e▸hMm
  have hnew:Av w' a' (setM (s.m key) (Ab.d m))∧(∀q,own a' q->w.heap.size<=q)∧(∀q,own a' q->¬F' q)∧(setM (s.m key) (Ab.d m)).Pairwise BH∧(∀y∈setM (s.m key) (Ab.d m),AC (Ab.d y))∧(setM (s.m key) (Ab.d m)).length<=1000∧setM (s.m key) (Ab.d m)≠ []:=
   ⟨hS,hga,hFa,FH hsort,fun y hy=>(G7 hy).elim (fun e=>e▸x2) (hmay y),Aaa (Iu _ _) (hm9 key),J3⟩
  have T1:=T.mark hks'
  rcases hcs with⟨rfl,hM⟩|⟨t,s',rfl,hM,hR',hok',hgd,hFd⟩
  ·obtain⟨a,c⟩:=H.step hL7 K' hb hD hm hM hMh hMm' (fun t ht=> .inl ht) (fun x hx=>((hks' x).1 hx).elim (fun e=> .inr (e▸hnew)) (fun e=> .inl e.1))
   refine⟨_,_,EL s (.r key m),⟨lg,m1,m2,m3,F',st,ts,ks',hs,rfl,a,?_⟩,c,KZ,.inr ⟨_,hok x1 x2 x3,rfl,rfl,rfl⟩⟩
   refine⟨T1.st,fun k v=> ?_,T1.m,T1.h⟩
   rw[<-T.c]
   show GO s.c key _ k=some v↔_
   by_cases e:k=key
   ·subst e;rw[E4,hco];exact Iff.rfl
   ·rw[Ei e]
  ·obtain⟨ts',e,hts⟩:=DA (kv:=Kc.kv) (x:=⟨key,Ax t.v (AZ m),s'⟩) (Gp H)
   have hM':At w' m1 (ts'.map Kc.kv):=e▸hM
   obtain⟨a,c⟩:=H.step hL7 K' hb hD hm hM' hMh hMm' (fun t ht=>((hts t).1 ht).elim (fun e=> .inr (e▸⟨hR',hok',hgd,hFd⟩)) (fun e=> .inl e.1)) (fun x hx=>((hks' x).1 hx).elim (fun e=> .inr (e▸hnew)) (fun e=> .inl e.1))
   refine⟨_,_,EL s (.r key m),⟨lg,m1,m2,m3,F',st,ts',ks',hs,rfl,a,?_⟩,c,KZ,.inr ⟨_,hok x1 x2 x3,rfl,rfl,rfl⟩⟩
   have T2:=T1.put hts
   rw[EL,hco];exact T2
end
end
section
attribute [local irreducible] DT Ax Ao B1
theorem Gq (b:Nat)(Z:Nat->Prop)(bs r:List UInt8)(x:UInt8)(n:Int)(w:World)(hrd:BD w b Z bs ([x]++r))(hx:(x.toNat:Int)=n):
  Calls prog 116 #[jp b] w (AN fun v w'=>v= .tuple #[.int .i64 n,.int .i64 0]∧BD w' b Z bs r∧Ad Z w w'):=hx▸Rq b Z bs r x w hrd
attribute [local irreducible] X
theorem YY (b lg m1 m2 m3:Nat)(lk st:Int)(n:Nat)(a9:Option Addr)(bs:List UInt8)(c9:Nat)(w:World)(hbs:bs=[UInt8.ofNat 1]++Aq n)(hrc:Av w a9 bs)(hb:AB w b [.int .i32 lk,.int .u32 0,jp lg,.int .i64 st,.map (some m1),.map (some m2),.map (some m3)] 94)(hn:n<4611686018427387904):
  Calls prog 60 #[jp b,.slice a9 bs.length c9] w (AN (fun v_ w'=>v_= .bool true∧AB w' b [.int .i32 lk,.int .u32 0,jp lg,.int .i64 ((n:Nat):Int),.map (some m1),.map (some m2),.map (some m3)] 94∧Ad (one b) w w')):=by
 have hbs2:bs=[UInt8.ofNat 1]++(Aq n++[]):=by rw[hbs];simp only[Aap,Aaw]
 have hvl:=A6 (n:=n) Zo;have hbl:bs.length<=100:=by rw[hbs,Aab];have:([UInt8.ofNat 1]:List UInt8).length=1:=rfl;omega
 refine Ac (n:=157) func60 rfl rfl rfl ?_;refine jG ?_;refine jR<|jC (GF (bs:=bs) hrc Zo) ?_;rintro _ a4 ⟨a5,a1,rfl,a0,a2,a6⟩;replace a0:BD a4 a5 a1 bs ([UInt8.ofNat 1]++(Aq n++[])):=(congrArg (fun r_=>BD a4 a5 a1 bs r_) hbs2).mp a0;have a3:=Aw a2 hb.lt;have a7:∀q_,a1 q_->q_<w.heap.size->(one b) q_:=Hx (Aac _) a2;clear a2;have K0:=(a6:Ap w _).to (S:=(one b));refine jG ?_;refine jR<|jC (Gq _ _ _ _ _ 1 _ a0 rfl) ?_;rintro _ al ⟨rfl,a8,aa⟩;replace K0:=K0.trans aa (fun x hlt hx=>a7 x hx hlt);replace a0:=a8;clear a8;refine jG ?_;refine Ai.condF rfl ?_;refine jG ?_;refine C4 ?_;refine jG ?_;refine jR<|jC (Ja _ _ _ _ n _ a0 Zo) ?_;rintro _ am ⟨⟨an,ao,rfl,af,ag⟩,ab,ac⟩;clear ag;replace K0:=K0.trans ac (fun x hlt hx=>a7 x hx hlt);replace a0:=ab;clear ab;refine jG ?_;refine C4 ?_;refine Em ?_;obtain⟨ap,aq,ah,ai,aj,ak⟩:=af.sl.el (i:=0) Zs;obtain rfl:((n:Nat):Int)=ah:=Option.some.inj ai;refine jV (AS underlying185 ty3 rfl rfl aj Zs) ?_;refine jV (BQ (v:= .int .i64 ((n:Nat):Int)) (y:=((n:Nat):Int)) ty3 rfl ak rfl) ?_;refine jG ?_;replace hb:=((hb.ext a6).keep aa a3).keep ac a3;refine jR<|jS hb ?_;intro ar hb ad;replace K0:=K0.tf ad rfl;refine jG ?_;replace a0:=a0.kO ad (Aa a3);refine jT<|jC (FJ a0) ?_;rintro _ au ⟨rfl,ae⟩;refine jG ?_;refine jV (BU rfl rfl rfl) ?_;refine jG ?_;refine jJ func60 ?_;replace hb:=hb.ext ae;replace K0:=K0.ext ae;exact⟨_,rfl,rfl,hb,K0⟩
theorem YZ (b lg m1 m2 m3:Nat)(lk st:Int)(ps:List (ByteArray×Value))(key:ByteArray)(a9:Option Addr)(bs:List UInt8)(c9:Nat)(w:World)(hbs:bs=[UInt8.ofNat 3]++AW key)(hrc:Av w a9 bs)(hb:AB w b [.int .i32 lk,.int .u32 0,jp lg,.int .i64 st,.map (some m1),.map (some m2),.map (some m3)] 94)(hM1:At w m1 ps)(n2:b≠m1)(hnm:AP key=true):
  Calls prog 60 #[jp b,.slice a9 bs.length c9] w (AN (fun v_ w'=>v_= .bool true∧At w' m1 (GS ps key)∧Ad (one m1) w w')):=by
 have hbs2:bs=[UInt8.ofNat 3]++(AW key++[]):=by rw[hbs];simp only[Aap,Aaw]
 have htl:=Cu (Bt hnm);have hbl:bs.length<=200:=by rw[hbs];simp only[Aab];have:([UInt8.ofNat 3]:List UInt8).length=1:=rfl;omega
 refine Ac (n:=157) func60 rfl rfl rfl ?_;refine jG ?_;refine jR<|jC (GF (bs:=bs) hrc Zo) ?_;rintro _ a8 ⟨aa,a3,rfl,a0,a1,a4⟩;replace a0:BD a8 aa a3 bs ([UInt8.ofNat 3]++(AW key++[])):=(congrArg (fun r_=>BD a8 aa a3 bs r_) hbs2).mp a0;have ab:=Aw a1 hb.lt;have a5:=Ah a1 hM1.oL;have ac:∀q_,a3 q_->q_<w.heap.size->(one m1) q_:=Hx (Aac _) a1;clear a1;have K0:=(a4:Ap w _).to (S:=(one m1));refine jG ?_;refine jR<|jC (Gq _ _ _ _ _ 3 _ a0 rfl) ?_;rintro _ ai ⟨rfl,ad,a6⟩;replace K0:=K0.trans a6 (fun x hlt hx=>ac x hx hlt);replace a0:=ad;clear ad;refine jG ?_;refine Ai.condF rfl ?_;refine jG ?_;refine Ai.condF rfl ?_;refine jG ?_;refine Ai.condF rfl ?_;refine jG ?_;refine C4 ?_;refine jG ?_;refine jR<|jC (OO _ _ _ _ key _ a0 hnm) ?_;rintro _ aj ⟨rfl,ae,a7⟩;replace K0:=K0.trans a7 (fun x hlt hx=>ac x hx hlt);replace a0:=ae;clear ae;replace hb:=((hb.ext a4).keep a6 ab).keep a7 ab;refine jG ?_;replace hM1:=((hM1.ext a4).kO a6 (Zf a5)).kO a7 (Zf a5);refine jR<|AA.deleteMap underlying90 underlying9 rfl rfl rfl hM1 ?_;intro ah a2 af;replace a2:At ah m1 (GS ps key):=a2;replace K0:=K0.trans af (fun x hlt hx=>(fun q_ h_ _=>h_) x hx hlt);replace hM1:=a2;clear a2;refine jG ?_;replace a0:=a0.kO af a5;refine jT<|jC (FJ a0) ?_;rintro _ ak ⟨rfl,ag⟩;refine jG ?_;refine jV (BU rfl rfl rfl) ?_;refine jG ?_;refine jJ func60 ?_;replace hM1:=hM1.ext ag;replace K0:=K0.ext ag;exact⟨_,rfl,rfl,hM1,K0⟩
theorem Y0 (b lg m1 m2 m3:Nat)(lk st:Int)(hps:List (AH×Value))(n:Nat)(key:ByteArray)(a9:Option Addr)(bs:List UInt8)(c9:Nat)(w:World)(hbs:bs=([UInt8.ofNat 4]++Aq n)++AW key)(hrc:Av w a9 bs)(hb:AB w b [.int .i32 lk,.int .u32 0,jp lg,.int .i64 st,.map (some m1),.map (some m2),.map (some m3)] 94)(hM2:At w m2 hps)(n3:b≠m2)(hn:n<8)(hnm:AP key=true):
  Calls prog 60 #[jp b,.slice a9 bs.length c9] w (AN (fun v_ w'=>v_= .bool true∧At w' m2 (CX hps (⟨((n:Nat):Int),key⟩:AH) (.agg #[]))∧Ad (one m2) w w')):=by
 have hbs2:bs=[UInt8.ofNat 4]++(Aq n++(AW key++[])):=by rw[hbs];simp only[Aap,Aaw]
 have htl:=Cu (Bt hnm);have hvl:=A6 (n:=n) Zo;have hbl:bs.length<=200:=by rw[hbs];simp only[Aab];have:([UInt8.ofNat 4]:List UInt8).length=1:=rfl;omega
 refine Ac (n:=157) func60 rfl rfl rfl ?_;refine jG ?_;refine jR<|jC (GF (bs:=bs) hrc Zo) ?_;rintro _ aj ⟨ak,ad,rfl,a0,a6,ae⟩;replace a0:BD aj ak ad bs ([UInt8.ofNat 4]++(Aq n++(AW key++[]))):=(congrArg (fun r_=>BD aj ak ad bs r_) hbs2).mp a0;have af:=Aw a6 hb.lt;have a7:=Ah a6 hM2.oL;have ag:∀q_,ad q_->q_<w.heap.size->(one m2) q_:=Hx (Aac _) a6;clear a6;have K0:=(ae:Ap w _).to (S:=(one m2));refine jG ?_;refine jR<|jC (Gq _ _ _ _ _ 4 _ a0 rfl) ?_;rintro _ aF ⟨rfl,al,ah⟩;replace K0:=K0.trans ah (fun x hlt hx=>ag x hx hlt);replace a0:=al;clear al;refine jG ?_;refine Ai.condF rfl ?_;refine jG ?_;refine Ai.condF rfl ?_;refine jG ?_;refine Ai.condF rfl ?_;refine jG ?_;refine Ai.condF rfl ?_;refine jG ?_;refine C4 ?_;refine jG ?_;refine C4 ?_;refine jG ?_;refine jR<|jC (Ja _ _ _ _ n _ a0 Zo) ?_;rintro _ aG ⟨⟨aH,aI,rfl,a1,am⟩,an,ai⟩;have av:=Ah am a0.oL;clear am;replace K0:=K0.trans ai (fun x hlt hx=>ag x hx hlt);replace a0:=an;clear an;refine H7 ?_;refine Em ?_;refine jV (Bn (b:=true) rfl) ?_;refine Em ?_;obtain⟨aJ,aK,aw,ao,ax,ay⟩:=a1.sl.el (i:=0) Zs;obtain rfl:((n:Nat):Int)=aw:=Option.some.inj ao;refine jT<|jO (AS underlying185 ty3 rfl rfl ax Zs) ?_;refine jT<|jO (BQ (v:= .int .i64 ((n:Nat):Int)) (y:=((n:Nat):Int)) ty3 rfl ay rfl) ?_;refine jT<|jC (Lj ((n:Nat):Int) _) ?_;rintro _ aL ⟨rfl,a3⟩;refine jG ?_;refine jV (E6 rfl rfl rfl) ?_;refine jG ?_;replace hb:=(((hb.ext ae).keep ah af).keep ai af).ext a3;replace hM2:=(((hM2.ext ae).kO ah (Zf a7)).kO ai (Zf a7)).ext a3;replace a0:=a0.ext a3;replace a1:=a1.ext a3;replace K0:=K0.ext a3;refine jF ?_ ?_
 ·intro hc82
  exfalso;simp at hc82;omega
 ·intro hc82
  refine jG ?_;refine jR<|jC (OO _ _ _ _ key _ a0 hnm) ?_;rintro _ aM ⟨rfl,ap,a8⟩;replace K0:=K0.trans a8 (fun x hlt hx=>ag x hx hlt);replace a0:=ap;clear ap;refine H7 ?_;refine Em ?_;replace a1:=a1.kO a8 av;obtain⟨aN,aO,az,aA,aB,aq⟩:=a1.sl.el (i:=0) Zs;obtain rfl:((n:Nat):Int)=az:=Option.some.inj (ao.symm.trans aA);refine jV (AS underlying185 ty3 rfl rfl aB Zs) ?_;refine jV (BQ (v:= .int .i64 ((n:Nat):Int)) (y:=((n:Nat):Int)) ty3 rfl aq rfl) ?_;refine jG ?_;refine jV (AI (cells:=#[.int .i64 ((n:Nat):Int),.string key]) Zk) ?_;refine jR<|jA ?_;intro aP aQ a2 a4 aa;replace hb:=hb.keep a8 af;have aR:=Ak hb.lt a2;have aS:=Ak aq.lt a2;replace hM2:=hM2.kO a8 (Zf a7);have aC:=An hM2.oL a2;have aD:=An a0.oL a2;have:=Aaa K0.size a2;clear a2;refine jR<|jS a4 ?_;intro aT a4 ab;replace K0:=K0.ext aa;replace K0:=K0.n1 ab;refine jG ?_;refine Ai.drawS [6] [0,1,2,1003,1004,5,2006] ?_;intro aU a5;replace hb:=((hb.ext aa).kp ab).ext a5;replace a4:=a4.ext a5;refine jM (jb hb (jb a4 Jn)) ?_;refine jG ?_;refine jP ?_ (hx:=by exact fun _=>(AI (cells:=#[]) Zk));replace hM2:=((hM2.ext aa).kO ab (Aa aC)).ext a5;refine jU rfl<|AA.mapUpdate (a:=(⟨((n:Nat):Int),key⟩:AH)) (v:= .agg #[]) underlying91 underlying110 IC rfl rfl rfl hM2 ?_;intro aE ac ar;replace ac:At aE m2 (CX hps (⟨((n:Nat):Int),key⟩:AH) (.agg #[])):=ac;replace K0:=K0.ext a5;replace K0:=K0.trans ar (fun x hlt hx=>(fun q_ h_ _=>h_) x hx hlt);replace hM2:=ac;clear ac;refine jG ?_;refine Ai.condF rfl ?_;refine jG ?_;replace a0:=(((a0.ext aa).kO ab (Aa aD)).ext a5).kO ar a7;refine jT<|jC (FJ a0) ?_;rintro _ aV ⟨rfl,au⟩;refine jG ?_;refine jV (BU rfl rfl rfl) ?_;refine jG ?_;refine jJ func60 ?_;replace hM2:=hM2.ext au;replace K0:=K0.ext au;exact⟨_,rfl,rfl,hM2,K0⟩
theorem Y1 (b lg m1 m2 m3:Nat)(lk st:Int)(hps:List (AH×Value))(n:Nat)(key:ByteArray)(a9:Option Addr)(bs:List UInt8)(c9:Nat)(w:World)(hbs:bs=([UInt8.ofNat 5]++Aq n)++AW key)(hrc:Av w a9 bs)(hb:AB w b [.int .i32 lk,.int .u32 0,jp lg,.int .i64 st,.map (some m1),.map (some m2),.map (some m3)] 94)(hM2:At w m2 hps)(n3:b≠m2)(hn:n<8)(hnm:AP key=true):
  Calls prog 60 #[jp b,.slice a9 bs.length c9] w (AN (fun v_ w'=>v_= .bool true∧At w' m2 (GS (CX hps (⟨((n:Nat):Int),key⟩:AH) (.agg #[])) (⟨((n:Nat):Int),key⟩:AH))∧Ad (one m2) w w')):=by
 have hbs2:bs=[UInt8.ofNat 5]++(Aq n++(AW key++[])):=by rw[hbs];simp only[Aap,Aaw]
 have htl:=Cu (Bt hnm);have hvl:=A6 (n:=n) Zo;have hbl:bs.length<=200:=by rw[hbs];simp only[Aab];have:([UInt8.ofNat 5]:List UInt8).length=1:=rfl;omega
 refine Ac (n:=157) func60 rfl rfl rfl ?_;refine jG ?_;refine jR<|jC (GF (bs:=bs) hrc Zo) ?_;rintro _ ao ⟨ap,ah,rfl,a0,a8,ai⟩;replace a0:BD ao ap ah bs ([UInt8.ofNat 5]++(Aq n++(AW key++[]))):=(congrArg (fun r_=>BD ao ap ah bs r_) hbs2).mp a0;have aj:=Aw a8 hb.lt;have a4:=Ah a8 hM2.oL;have ak:∀q_,ah q_->q_<w.heap.size->(one m2) q_:=Hx (Aac _) a8;clear a8;have K0:=(ai:Ap w _).to (S:=(one m2));refine jG ?_;refine jR<|jC (Gq _ _ _ _ _ 5 _ a0 rfl) ?_;rintro _ aJ ⟨rfl,aq,al⟩;replace K0:=K0.trans al (fun x hlt hx=>ak x hx hlt);replace a0:=aq;clear aq;refine jG ?_;refine Ai.condF rfl ?_;refine jG ?_;refine Ai.condF rfl ?_;refine jG ?_;refine Ai.condF rfl ?_;refine jG ?_;refine Ai.condF rfl ?_;refine jG ?_;refine Ai.condF rfl ?_;refine jG ?_;refine C4 ?_;refine jG ?_;refine jR<|jC (Ja _ _ _ _ n _ a0 Zo) ?_;rintro _ aK ⟨⟨aL,aM,rfl,a2,ar⟩,au,am⟩;have az:=Ah ar a0.oL;clear ar;replace K0:=K0.trans am (fun x hlt hx=>ak x hx hlt);replace a0:=au;clear au;refine H7 ?_;refine Em ?_;refine jV (Bn (b:=true) rfl) ?_;refine Em ?_;obtain⟨aN,aO,aA,av,aB,aC⟩:=a2.sl.el (i:=0) Zs;obtain rfl:((n:Nat):Int)=aA:=Option.some.inj av;refine jT<|jO (AS underlying185 ty3 rfl rfl aB Zs) ?_;refine jT<|jO (BQ (v:= .int .i64 ((n:Nat):Int)) (y:=((n:Nat):Int)) ty3 rfl aC rfl) ?_;refine jT<|jC (Lj ((n:Nat):Int) _) ?_;rintro _ aP ⟨rfl,a5⟩;refine jG ?_;refine jV (E6 rfl rfl rfl) ?_;refine jG ?_;replace hb:=(((hb.ext ai).keep al aj).keep am aj).ext a5;replace hM2:=(((hM2.ext ai).kO al (Zf a4)).kO am (Zf a4)).ext a5;replace a0:=a0.ext a5;replace a2:=a2.ext a5;replace K0:=K0.ext a5;refine jF ?_ ?_
 ·intro hc82
  exfalso;simp at hc82;omega
 ·intro hc82
  refine jG ?_;refine jR<|jC (OO _ _ _ _ key _ a0 hnm) ?_;rintro _ aQ ⟨rfl,aw,aa⟩;replace K0:=K0.trans aa (fun x hlt hx=>ak x hx hlt);replace a0:=aw;clear aw;refine H7 ?_;refine Em ?_;replace a2:=a2.kO aa az;obtain⟨aR,aS,aD,aE,aF,ax⟩:=a2.sl.el (i:=0) Zs;obtain rfl:((n:Nat):Int)=aD:=Option.some.inj (av.symm.trans aE);refine jV (AS underlying185 ty3 rfl rfl aF Zs) ?_;refine jV (BQ (v:= .int .i64 ((n:Nat):Int)) (y:=((n:Nat):Int)) ty3 rfl ax rfl) ?_;refine jG ?_;refine jV (AI (cells:=#[.int .i64 ((n:Nat):Int),.string key]) Zk) ?_;refine jR<|jA ?_;intro aT aU a3 a1 ab;replace hb:=hb.keep aa aj;have aV:=Ak hb.lt a3;have aW:=Ak ax.lt a3;replace hM2:=hM2.kO aa (Zf a4);have an:=An hM2.oL a3;have aG:=An a0.oL a3;have:=Aaa K0.size a3;clear a3;refine jR<|jS a1 ?_;intro aX a1 ac;replace K0:=K0.ext ab;replace K0:=K0.n1 ac;refine jG ?_;refine Ai.drawS [6] [0,1,2,1003,1004,5,2006] ?_;intro aY a6;replace hb:=((hb.ext ab).kp ac).ext a6;replace a1:=a1.ext a6;refine jM (jb hb (jb a1 Jn)) ?_;refine jG ?_;refine jP ?_ (hx:=by exact fun _=>(AI (cells:=#[]) Zk));replace hM2:=((hM2.ext ab).kO ac (Aa an)).ext a6;refine jU rfl<|AA.mapUpdate (a:=(⟨((n:Nat):Int),key⟩:AH)) (v:= .agg #[]) underlying91 underlying110 IC rfl rfl rfl hM2 ?_;intro aH ad ae;replace ad:At aH m2 (CX hps (⟨((n:Nat):Int),key⟩:AH) (.agg #[])):=ad;replace K0:=K0.ext a6;replace K0:=K0.trans ae (fun x hlt hx=>(fun q_ h_ _=>h_) x hx hlt);replace hM2:=ad;clear ad;refine jG ?_;refine C4 ?_;refine Ai.drawS [] [0,1,2,1003,1004,2005] ?_;intro aZ a7;replace hb:=(hb.keep ae (fun e_=>n3 e_)).ext a7;replace a1:=(a1.keep ae an).ext a7;refine jM (jb hb (jb a1 Jn)) ?_;refine jG ?_;replace hM2:=hM2.ext a7;refine jU rfl<|AA.deleteMap (a:=(⟨((n:Nat):Int),key⟩:AH)) underlying91 underlying110 IC rfl rfl hM2 ?_;intro aI af ag;replace af:At aI m2 (GS (CX hps (⟨((n:Nat):Int),key⟩:AH) (.agg #[])) (⟨((n:Nat):Int),key⟩:AH)):=af;replace K0:=K0.ext a7;replace K0:=K0.trans ag (fun x hlt hx=>(fun q_ h_ _=>h_) x hx hlt);replace hM2:=af;clear af;replace hb:=hb.keep ag (fun e_=>n3 e_);replace a1:=a1.keep ag an;refine jG ?_;replace a0:=(((((a0.ext ab).kO ac (Aa aG)).ext a6).kO ae a4).ext a7).kO ag a4;refine jT<|jC (FJ a0) ?_;rintro _ b0 ⟨rfl,ay⟩;refine jG ?_;refine jV (BU rfl rfl rfl) ?_;refine jG ?_;refine jJ func60 ?_;replace hM2:=hM2.ext ay;replace K0:=K0.ext ay;exact⟨_,rfl,rfl,hM2,K0⟩
end
section
attribute [local irreducible] Ax Ao B1
theorem Vv {a b c:List UInt8}(h:a=b++c):a.drop (a.length-c.length)=c:=by
 rw[h,Aab,Nat.add_sub_cancel,AbI]
attribute [local irreducible] X
theorem Y2 (x:Ab)(b:Nat)(m:Ab)(w:World)(hb:AB w b [.int .i64 m.node,.int .i64 m.life,.int .i64 m.count] 46):
  Calls prog 120 #[.agg #[.int .i64 x.node,.int .i64 x.life,.int .i64 x.count],jp b] w (AN (fun v w'=>v= .bool (decide (AZ x=AZ m))∧Ap w w')):=by
 refine Ac (n:=9) func120 rfl rfl rfl ?_;refine jG ?_;refine jR<|jB ?_;intro a6 a7 a1 a0 a5;have a8:=Ak hb.lt a1;have:w.heap.size<=a6:=a1;clear a1;have K0:=(a5:Ap w _);refine jG ?_;refine Ai.drawS [] [1000,1002,2001,2003,4,5] ?_;intro a9 a2;replace hb:=(hb.ext a5).ext a2;replace a0:=a0.ext a2;refine jM (jb hb (jb a0 Jn)) ?_;refine jG ?_;refine jU rfl<|jC (Dz x _) ?_;rintro _ aa ⟨rfl,a3⟩;replace hb:=hb.ext a3;replace a0:=a0.ext a3;refine jG ?_;refine jU rfl<|jC (Dz m _) ?_;rintro _ ab ⟨rfl,a4⟩;replace hb:=hb.ext a4;replace a0:=a0.ext a4;refine jG ?_;refine jP ?_ (hx:=by exact fun _=>(GJ Zk rfl rfl (DZ (AZ x) (AZ m))));refine jG ?_;refine jJ func120 ?_;replace K0:=((K0.ext a2).ext a3).ext a4;exact⟨_,rfl,rfl,K0⟩
theorem Y3 (b lg m1 m2 m3:Nat)(lk st:Int)(qs:List (ByteArray×Value))(ma:Option Addr)(ml:List Ab)(mc:Nat)(ps:List (ByteArray×Value))(o:Option Kc)(n l c:Nat)(key:ByteArray)(a9:Option Addr)(bs:List UInt8)(c9:Nat)(w:World)(hbs:bs=((([UInt8.ofNat 6]++AW key)++Aq n)++Aq l)++Aq c)(hrc:Av w a9 bs)(hb:AB w b [.int .i32 lk,.int .u32 0,jp lg,.int .i64 st,.map (some m1),.map (some m2),.map (some m3)] 94)(hM1:At w m1 ps)(hM3:At w m3 qs)(hgm:(BO qs key).getD (.slice none 0 0)= .slice ma ml.length mc)(hms:Av w ma ml)(hapM:∀x,ma=some x->ml≠ []->¬(fun q_=>q_=m1∨q_=m3) x.block)(n2:b≠m1)(n3:b≠m3)(n5:m1≠m3)(hS:ml.Pairwise BH)(hM:∀x∈ml,AC (Ab.d x))(hnm:AP key=true)(hmay:AC (Ab.d (⟨((n:Nat):Int),((l:Nat):Int),((c:Nat):Int)⟩:Ab)))(hno:∀x∈ml,AZ x≠AZ (⟨((n:Nat):Int),((l:Nat):Int),((c:Nat):Int)⟩:Ab))(hml2:ml.length<=1000)(hget:BO ps key=o.map (fun t=>(Kc.kv t).2))(hTo:∀t,o=some t->Bf w t.s t.v∧Bl t.v t.s∧∀q,BE t.s t.v q->¬(fun q_=>q_=m1∨q_=m3) q):
  Calls prog 60 #[jp b,.slice a9 bs.length c9] w (AN (fun v_ w'=>v_= .bool true∧(∃a' c',At w' m3 (CX qs key (.slice a' (setM ml (Ab.d (⟨((n:Nat):Int),((l:Nat):Int),((c:Nat):Int)⟩:Ab))).length c'))∧Av w' a' (setM ml (Ab.d (⟨((n:Nat):Int),((l:Nat):Int),((c:Nat):Int)⟩:Ab)))∧(∀q,own a' q->w.heap.size<=q)∧((o=none∧At w' m1 ps)∨∃t s',o=some t∧At w' m1 (CX ps key (.agg #[.slice (((CN (Ax t.v (AZ (⟨((n:Nat):Int),((l:Nat):Int),((c:Nat):Int)⟩:Ab))) s').cart).entries.a) (((CN (Ax t.v (AZ (⟨((n:Nat):Int),((l:Nat):Int),((c:Nat):Int)⟩:Ab))) s').cart).entries.len) (((CN (Ax t.v (AZ (⟨((n:Nat):Int),((l:Nat):Int),((c:Nat):Int)⟩:Ab))) s').cart).entries.cap),.slice ((((CN (Ax t.v (AZ (⟨((n:Nat):Int),((l:Nat):Int),((c:Nat):Int)⟩:Ab))) s').cart).ctx).marks.a) ((((CN (Ax t.v (AZ (⟨((n:Nat):Int),((l:Nat):Int),((c:Nat):Int)⟩:Ab))) s').cart).ctx).marks.len) ((((CN (Ax t.v (AZ (⟨((n:Nat):Int),((l:Nat):Int),((c:Nat):Int)⟩:Ab))) s').cart).ctx).marks.cap),.slice ((((CN (Ax t.v (AZ (⟨((n:Nat):Int),((l:Nat):Int),((c:Nat):Int)⟩:Ab))) s').cart).ctx).cloud.a) ((((CN (Ax t.v (AZ (⟨((n:Nat):Int),((l:Nat):Int),((c:Nat):Int)⟩:Ab))) s').cart).ctx).cloud.len) ((((CN (Ax t.v (AZ (⟨((n:Nat):Int),((l:Nat):Int),((c:Nat):Int)⟩:Ab))) s').cart).ctx).cloud.cap)]))∧Bf w' s' (Ax t.v (AZ (⟨((n:Nat):Int),((l:Nat):Int),((c:Nat):Int)⟩:Ab)))∧Bl (Ax t.v (AZ (⟨((n:Nat):Int),((l:Nat):Int),((c:Nat):Int)⟩:Ab))) s'∧(∀q,BE s' (Ax t.v (AZ (⟨((n:Nat):Int),((l:Nat):Int),((c:Nat):Int)⟩:Ab))) q->w.heap.size<=q)))∧Ad (fun q_=>q_=m1∨q_=m3) w w')):=by
 have hbs2:bs=[UInt8.ofNat 6]++(AW key++(Aq n++(Aq l++(Aq c++[])))):=by rw[hbs];simp only[Aap,Aaw]
 have htl:=Cu (Bt hnm);have hmb:=hmay;simp only[AC,Ab.d]at hmb;have hv1:=A6 (n:=n) Zo;have hv2:=A6 (n:=l) Zo;have hv3:=A6 (n:=c) Zo;have hany:ml.any (fun x=>decide (AZ x=AZ (⟨((n:Nat):Int),((l:Nat):Int),((c:Nat):Int)⟩:Ab)))=false:=by simpa using hno
 have hbl:bs.length<=200:=by rw[hbs];simp only[Aab];have:([UInt8.ofNat 6]:List UInt8).length=1:=rfl;omega
 refine Ac (n:=157) func60 rfl rfl rfl ?_;refine jG ?_;refine jR<|jC (GF (bs:=bs) hrc Zo) ?_;rintro _ ao ⟨ap,aj,rfl,a0,ab,ad⟩;replace a0:BD ao ap aj bs ([UInt8.ofNat 6]++(AW key++(Aq n++(Aq l++(Aq c++[]))))):=(congrArg (fun r_=>BD ao ap aj bs r_) hbs2).mp a0;have ak:=Aw ab hb.lt;have ae:=Ah ab hM1.oL;have af:=Ah ab hM3.oL;have al:∀q_,aj q_->q_<w.heap.size->(fun q_=>q_=m1∨q_=m3) q_:=Hx (Aac _) ab;clear ab;have K0:=(ad:Ap w _).to (S:=(fun q_=>q_=m1∨q_=m3));refine jG ?_;refine jR<|jC (Gq _ _ _ _ _ 6 _ a0 rfl) ?_;rintro _ aL ⟨rfl,aq,ag⟩;replace K0:=K0.trans ag (fun x hlt hx=>al x hx hlt);replace a0:=aq;clear aq;refine jG ?_;refine Ai.condF rfl ?_;refine jG ?_;refine Ai.condF rfl ?_;refine jG ?_;refine Ai.condF rfl ?_;refine jG ?_;refine Ai.condF rfl ?_;refine jG ?_;refine Ai.condF rfl ?_;refine jG ?_;refine Ai.condF rfl ?_;refine jG ?_;refine C4 ?_;refine jG ?_;refine jR<|jC (OO _ _ _ _ key _ a0 hnm) ?_;rintro _ aM ⟨rfl,ar,ah⟩;replace K0:=K0.trans ah (fun x hlt hx=>al x hx hlt);replace a0:=ar;clear ar;refine jG ?_;refine jR<|jC (SR _ _ _ _ n l c _ a0 Zo Zo Zo) ?_;rintro _ aN ⟨⟨aO,aP,rfl,am,ax⟩,au,ai⟩;clear ax;replace K0:=K0.trans ai (fun x hlt hx=>al x hx hlt);replace a0:=au;clear au;refine H7 ?_;refine Em ?_;refine jV (Bn (b:=true) rfl) ?_;refine Em ?_;refine jT<|jO (Bn (b:=true) rfl) ?_;refine jV (E6 rfl rfl rfl) ?_;refine jG ?_;refine Ai.condF rfl ?_;refine jG ?_;obtain⟨aQ,aR,ay,az,aA,a1⟩:=am.sl.el (i:=0) Zs;obtain rfl:((n:Nat):Int)=ay:=Option.some.inj az;obtain⟨aS,aT,aB,aC,aD,a2⟩:=am.sl.el (i:=1) Zs;obtain rfl:((l:Nat):Int)=aB:=Option.some.inj aC;obtain⟨aU,aV,aE,aF,aG,a3⟩:=am.sl.el (i:=2) Zs;obtain rfl:((c:Nat):Int)=aE:=Option.some.inj aF;refine Ai.drawS [11] [0,1,1002,3,4,1005,6,7,1008,9,2010,2011] ?_;intro aW a5;replace a1:=a1.ext a5;replace a2:=a2.ext a5;replace a3:=a3.ext a5;refine jM (jl a1 (jl a2 (jl a3 Jn))) ?_;refine FW ?_;refine jP ?_ (hx:=by exact fun _=>(AS underlying185 ty3 rfl rfl aA Zs));refine jH ?_ (hx:=by exact(by rintro _ ⟨a1,a2,a3,-⟩;exact(BQ (v:= .int .i64 ((n:Nat):Int)) (y:=((n:Nat):Int)) ty3 rfl a1 rfl)));refine FW ?_;refine jP ?_ (hx:=by exact fun _=>(AS underlying185 ty3 rfl rfl aD Zs));refine jH ?_ (hx:=by exact(by rintro _ ⟨a1,a2,a3,-⟩;exact(BQ (v:= .int .i64 ((l:Nat):Int)) (y:=((l:Nat):Int)) ty3 rfl a2 rfl)));refine FW ?_;refine jP ?_ (hx:=by exact fun _=>(AS underlying185 ty3 rfl rfl aG Zs));refine jH ?_ (hx:=by exact(by rintro _ ⟨a1,a2,a3,-⟩;exact(BQ (v:= .int .i64 ((c:Nat):Int)) (y:=((c:Nat):Int)) ty3 rfl a3 rfl)));refine jP ?_ (hx:=by exact fun _=>(AI (cells:=#[.int .i64 ((n:Nat):Int),.int .i64 ((l:Nat):Int),.int .i64 ((c:Nat):Int)]) Zk));refine jU rfl<|jA ?_;intro av aX a4 a7 a6;replace hb:=((((hb.ext ad).keep ag ak).keep ah ak).keep ai ak).ext a5;have aY:=Ak hb.lt a4;have aZ:=Ak a1.lt a4;have b0:=Ak a2.lt a4;have b1:=Ak a3.lt a4;replace hM1:=((((hM1.ext ad).kO ag (Zf ae)).kO ah (Zf ae)).kO ai (Zf ae)).ext a5;have aH:=An hM1.oL a4;replace hM3:=((((hM3.ext ad).kO ag (Zf af)).kO ah (Zf af)).kO ai (Zf af)).ext a5;have aI:=An hM3.oL a4;replace a0:=a0.ext a5;have aJ:=An a0.oL a4;replace K0:=K0.ext a5;have:=Aaa K0.size a4;clear a4;replace a1:=a1.ext a6;replace a2:=a2.ext a6;replace a3:=a3.ext a6;refine jG ?_;refine jU rfl<|jS a7 ?_;intro b2 a7 ac;replace K0:=K0.ext a6;replace K0:=K0.n1 ac;refine jG ?_;refine jR<|jC (Vt (⟨((n:Nat):Int),((l:Nat):Int),((c:Nat):Int)⟩:Ab) _) ?_
 rintro _ b3 ⟨rfl,a8⟩;refine jG ?_;replace hb:=((hb.ext a6).kp ac).ext a8;replace hM1:=((hM1.ext a6).kO ac (Aa aH)).ext a8;replace hM3:=((hM3.ext a6).kO ac (Aa aI)).ext a8;replace a0:=((a0.ext a6).kO ac (Aa aJ)).ext a8;replace a7:=a7.ext a8;replace K0:=K0.ext a8;refine jF ?_ ?_
 ·intro hc137
  exact absurd hmay (by simpa using hc137)
 ·intro hc137
  refine jG ?_;refine jV (C7 (v':= .slice ma ml.length mc) (Dd underlying92 underlying9 rfl ty28 rfl rfl hM3) hgm) ?_;refine jV (CQ (a:=[]) (c:=[jp av]) rfl rfl) ?_;refine jR<|jC (Ev _ _ _ 120 _ (fun x=>decide (AZ x=AZ (⟨((n:Nat):Int),((l:Nat):Int),((c:Nat):Int)⟩:Ab))) en120.h _ (hms.keepN K0 hapM) Zo (fun x_ _ w_ K_=>Y2 x_ av (⟨((n:Nat):Int),((l:Nat):Int),((c:Nat):Int)⟩:Ab) w_ (a7.ext K_))) ?_;rintro _ aK ⟨rfl,aa⟩;refine jG ?_;replace hb:=hb.ext aa;replace hM1:=hM1.ext aa;replace hM3:=hM3.ext aa;replace a0:=a0.ext aa;replace a7:=a7.ext aa;replace K0:=K0.ext aa;refine jF ?_ ?_
  ·intro hc146
   refine jG ?_;have hsz9:w.heap.size<=aK.heap.size:=K0.size;refine jR<|jC (No _ _ _ _ _ _ _ qs ma ml mc ps o key (⟨((n:Nat):Int),((l:Nat):Int),((c:Nat):Int)⟩:Ab) _ hb hM1 hM3 hgm (hms.keepN K0 hapM) Zo hapM n2 n3 n5 hS hM hmay hno Zo hget (fun t_ e_=>have h_:=hTo t_ e_;⟨h_.1.kO K0 h_.2.2,h_.2⟩)) ?_;rintro r9 aw ⟨rfl,a9,c9,hMc9,hS9,hg9,hcs9,K9⟩;replace K0:=K0.trans K9 (fun x hlt hx=>(fun q_ h_ _=>h_) x hx hlt);have hz9:Ap aw aw:=Ad.refl _ _;refine jG ?_;replace a0:=a0.kO K9 (fun q_ h1_ h_=>h_.elim (fun e_=>(Zf ae) q_ e_ h1_) (fun e_=>(Zf af) q_ e_ h1_));refine jT<|jC (FJ a0) ?_;rintro _ b4 ⟨rfl,an⟩;refine jG ?_;refine jV (BU rfl rfl rfl) ?_;refine jG ?_;refine jJ func60 ?_;replace hb:=(hb.keep K9 (fun h_=>h_.elim (fun e_=>(fun e_=>n2 e_) e_) (fun e_=>(fun e_=>n3 e_) e_))).ext an;replace hz9:=hz9.ext an;replace K0:=K0.ext an;exact⟨_,rfl,rfl,⟨a9,c9,hMc9.ext hz9,hS9.ext hz9,fun q_ h_=>Aaa hsz9 (hg9 q_ h_),hcs9.imp (fun h_=>⟨h_.1,h_.2.ext hz9⟩) (fun⟨t_,s_,e_,x1,x2,x3,x4,_⟩=>⟨t_,s_,e_,x1.ext hz9,x2.ext hz9,x3,fun q_ h_=>Aaa hsz9 (x4 q_ h_)⟩)⟩,K0⟩
  ·intro hc146
   exfalso;rw[hany]at hc146;simp at hc146
theorem Y4 (b lg m1 m2 m3:Nat)(lk st:Int)(qs:List (ByteArray×Value))(ma:Option Addr)(ml:List Ab)(mc:Nat)(ps:List (ByteArray×Value))(o:Option Kc)(key:ByteArray)(v:MV)(rb:Nat)(Z:Nat->Prop)(a9:Option Addr)(bs:List UInt8)(c9:Nat)(w:World)(hbs:bs=DT key v)(hrc:Av w a9 bs)(hb:AB w b [.int .i32 lk,.int .u32 0,jp lg,.int .i64 st,.map (some m1),.map (some m2),.map (some m3)] 94)(hM1:At w m1 ps)(hM3:At w m3 qs)(hgm:(BO qs key).getD (.slice none 0 0)= .slice ma ml.length mc)(hms:Av w ma ml)(hapM:∀x,ma=some x->ml≠ []->¬(fun q_=>Z q_∨q_=m1) x.block)(n2:b≠m1)(n5:m1≠m3)(hml2:ml.length<=1000)(hnm:AP key=true)(hcan:EJ v=0)(hent:Fr v.ent)(hvok:JT v)(hcl:Cm ml v=0)(hwn:wN (o.map (·.v)) (Ao ml v)=0)(hget:BO ps key=o.map (fun t=>(Kc.kv t).2))(hTo:∀t,o=some t->Bf w t.s t.v∧Bl t.v t.s∧∀q,BE t.s t.v q->¬(fun q_=>Z q_∨q_=m1) q)(hcap:bs.length<=c9)(hrd:BD w rb Z bs (AW key++Cy v))(hrcN:∀x,a9=some x->bs≠ []->¬(fun q_=>Z q_∨q_=m1) x.block)(nZb:¬Z b)(nZ1:¬Z m1)(nZ3:¬Z m3):
  Calls prog 118 #[jp b,jp rb,.slice a9 bs.length c9] w (AN (fun v_ w'=>v_= .bool true∧(∃s1,At w' m1 (CX ps key (.agg #[.slice (((CN (wV (o.map (·.v)) (Ao ml v)) s1).cart).entries.a) (((CN (wV (o.map (·.v)) (Ao ml v)) s1).cart).entries.len) (((CN (wV (o.map (·.v)) (Ao ml v)) s1).cart).entries.cap),.slice ((((CN (wV (o.map (·.v)) (Ao ml v)) s1).cart).ctx).marks.a) ((((CN (wV (o.map (·.v)) (Ao ml v)) s1).cart).ctx).marks.len) ((((CN (wV (o.map (·.v)) (Ao ml v)) s1).cart).ctx).marks.cap),.slice ((((CN (wV (o.map (·.v)) (Ao ml v)) s1).cart).ctx).cloud.a) ((((CN (wV (o.map (·.v)) (Ao ml v)) s1).cart).ctx).cloud.len) ((((CN (wV (o.map (·.v)) (Ao ml v)) s1).cart).ctx).cloud.cap)]))∧Bf w' s1 (wV (o.map (·.v)) (Ao ml v))∧Bl (wV (o.map (·.v)) (Ao ml v)) s1∧(∀q,BE s1 (wV (o.map (·.v)) (Ao ml v)) q->w.heap.size<=q))∧Ad (fun q_=>Z q_∨q_=m1) w w')):=by
 obtain⟨u,hu⟩:∃u_,u_=Ao ml v:=⟨_,rfl⟩;obtain⟨W,hW⟩:∃W_,W_=wV (o.map (·.v)) u:=⟨_,rfl⟩;rw[<-hu]at hwn;have hdrop:bs.drop (bs.length-(Cy v).length)=Cy v:=Vv (by rw[hbs,DT]);have htl:=Cu (Bt hnm);have hel:=Hb hent hcan;have hbl:bs.length<=9100:=by rw[hbs,DT];simp only[Aab];have:([UInt8.ofNat 2]:List UInt8).length=1:=rfl;omega
 refine Ac (n:=46) func118 rfl rfl rfl ?_;refine jG ?_;refine jR<|jC (OO _ _ _ _ key _ hrd hnm) ?_;rintro _ aC ⟨rfl,ak,ah⟩;have K0:=(Ad.refl (fun q_=>Z q_∨q_=m1) w).trans ah (fun x hlt hx=>(fun q_ h_ _=>Or.inl h_) x hx hlt);replace hrd:=ak;clear ak;refine H7 ?_;refine Em ?_;refine jV (Bn (b:=true) rfl) ?_;refine jG ?_;refine Ai.condF rfl ?_;refine jG ?_;refine jR<|jC (gb hrd) ?_;rintro _ aD ⟨rfl,aa⟩;refine jV (C5 (xs:=bs) underlying98 ty5 rfl rfl Zo) ?_;replace K0:=K0.ext aa;refine jR<|jC (gg v _ _ _ _ hdrop ((hrc.keepN K0 hrcN).from (bs.length-(Cy v).length) c9 hcap) hent hcan hvok) ?_;rintro _ aE ⟨al,rfl,ab,aF,ao,ac⟩;clear ao;have hokd:Bl v al:=⟨hvok,hent,ab.ent.le_cap⟩;refine jG ?_;refine jR<|jA ?_;intro aG aH a5 a2 a6;replace hb:=((hb.keep ah nZb).ext aa).ext ac;have aI:=Ak hb.lt a5;replace hM1:=((hM1.kO ah (fun q_ h1 h2=>(fun q_ h_ (e_:q_=m1)=>nZ1 (e_▸h_)) q_ h2 h1)).ext aa).ext ac;have ap:=An hM1.oL a5;replace hM3:=((hM3.kO ah (fun q_ h1 h2=>(fun q_ h_ (e_:q_=m3)=>nZ3 (e_▸h_)) q_ h2 h1)).ext aa).ext ac;have aq:=An hM3.oL a5;replace hrd:=(hrd.ext aa).ext ac;have ar:=An hrd.oL a5;have au:=An ab.oL a5;replace K0:=K0.ext ac;have:=Aaa K0.size a5;clear a5;refine jR<|jS a2 ?_;intro am a2 a7;replace K0:=K0.ext a6;replace K0:=K0.n1 a7;refine jG ?_;refine Ai.condF rfl ?_;refine jG ?_;replace hb:=(hb.ext a6).kp a7;replace hM1:=(hM1.ext a6).kO a7 (Aa ap);replace hM3:=(hM3.ext a6).kO a7 (Aa aq);replace ab:=(ab.ext a6).kO a7 (Aa au);refine jR<|jC (P7 _ _ _ _ _ _ _ qs ma ml mc _ o _ v al _ hb hM1 hM3 hgm (hms.keepN K0 hapM) Zo ab.r hokd hget (fun t_ e_=>have h_:=hTo t_ e_;⟨h_.1.kO K0 h_.2.2,h_.2.1⟩)) ?_;rintro r_ aJ ⟨hw_,a8⟩;rw[<-hu,<-hW]at hw_;replace hrd:=(hrd.ext a6).kO a7 (Aa ar);rcases hw_ with⟨hcn,_⟩|⟨_,⟨hwn9,_⟩|⟨_,s1,s2,rfl,hR1,hok1,hR2,hok2,hg1,hg2⟩⟩
 ·exact absurd hcl hcn
 ·exact absurd hwn hwn9
 have hg1d:∀q_,BE s1 W q_->am.heap.size<=q_:=fun q_ h_=>hg1 q_ (cart_d q_ h_);have av:=Ah hg1d hM1.oL;have aw:=Bd K0.size hg1d;have hg2d:∀q_,BE s2 u q_->am.heap.size<=q_:=fun q_ h_=>hg2 q_ (cart_d q_ h_);have aK:=Ah hg2d hM1.oL;clear hg1 hg2 hg1d hg2d;refine jG ?_;refine jR<|jA ?_;intro aL aM a1 a3 a4;replace hb:=hb.ext a8;have aN:=Ak hb.lt a1;replace a2:=a2.ext a8;have aO:=Ak a2.lt a1;replace hM1:=hM1.ext a8;have ax:=An hM1.oL a1;replace hM3:=hM3.ext a8;have aP:=An hM3.oL a1;replace hrd:=hrd.ext a8;have aQ:=An hrd.oL a1;have ay:=An hR1.oL a1;have aR:=An hR2.oL a1;replace K0:=K0.ext a8;have:=Aaa K0.size a1;clear a1;refine jR<|jA ?_;intro aS aT a0 ai ad;replace hb:=hb.ext a4;have aU:=Ak hb.lt a0;replace a2:=a2.ext a4;have aV:=Ak a2.lt a0;have aW:=Ak a3.lt a0;replace hM1:=hM1.ext a4;have az:=An hM1.oL a0;replace hM3:=hM3.ext a4;have aX:=An hM3.oL a0;replace hrd:=hrd.ext a4;have aY:=An hrd.oL a0;replace hR1:=hR1.ext a4;have aA:=An hR1.oL a0;replace hR2:=hR2.ext a4;have aZ:=An hR2.oL a0;replace K0:=K0.ext a4;have:=Aaa K0.size a0;clear a0;replace a3:=a3.ext ad;refine jR<|jS a3 ?_;intro b0 a3 ae;replace K0:=K0.ext ad;replace K0:=K0.n1 ae;replace ai:=ai.kp ae;refine jR<|jS ai ?_;intro b1 ai af;replace K0:=K0.n1 af;refine jG ?_;refine Ai.drawS [6] [0,1,2,1003,4,1005,2006] ?_;intro b2 ag;replace hb:=(((hb.ext ad).kp ae).kp af).ext ag;replace a3:=(a3.kp af).ext ag;refine jM (jb hb (jb a3 Jn)) ?_;refine jG ?_;replace hM1:=(((hM1.ext ad).kO ae (Aa ax)).kO af (Aa az)).ext ag;refine jU rfl<|AA.mapUpdate (v:= .agg #[.slice s1.ea W.ent.length s1.ec,.slice s1.ma W.mrk.length s1.mc,.slice s1.ca W.cl.length s1.cc]) underlying90 underlying9 rfl rfl rfl rfl hM1 ?_;intro aB aj an;replace aj:At aB m1 (CX ps key (.agg #[.slice s1.ea W.ent.length s1.ec,.slice s1.ma W.mrk.length s1.mc,.slice s1.ca W.cl.length s1.cc])):=aj;replace K0:=K0.ext ag;replace K0:=K0.trans an (fun x hlt hx=>(fun q_ h_ _=>Or.inr h_) x hx hlt);replace hM1:=aj;clear aj;refine jG ?_;refine jJ func118 ?_;subst hW;subst hu;replace hR1:=((((hR1.ext ad).kO ae (Aa ay)).kO af (Aa aA)).ext ag).kO an av;exact⟨_,rfl,rfl,⟨s1,hM1,hR1,hok1,aw⟩,K0⟩
theorem Y5 (b lg m1 m2 m3:Nat)(lk st:Int)(qs:List (ByteArray×Value))(ma:Option Addr)(ml:List Ab)(mc:Nat)(ps:List (ByteArray×Value))(o:Option Kc)(key:ByteArray)(v:MV)(a9:Option Addr)(bs:List UInt8)(c9:Nat)(w:World)(hbs:bs=([UInt8.ofNat 2]++AW key)++Cy v)(hrc:Av w a9 bs)(hb:AB w b [.int .i32 lk,.int .u32 0,jp lg,.int .i64 st,.map (some m1),.map (some m2),.map (some m3)] 94)(hM1:At w m1 ps)(hM3:At w m3 qs)(hgm:(BO qs key).getD (.slice none 0 0)= .slice ma ml.length mc)(hms:Av w ma ml)(hapM:∀x,ma=some x->ml≠ []->¬(fun q_=>q_=m1) x.block)(n2:b≠m1)(n5:m1≠m3)(hml2:ml.length<=1000)(hnm:AP key=true)(hcan:EJ v=0)(hent:Fr v.ent)(hvok:JT v)(hcl:Cm ml v=0)(hwn:wN (o.map (·.v)) (Ao ml v)=0)(hget:BO ps key=o.map (fun t=>(Kc.kv t).2))(hTo:∀t,o=some t->Bf w t.s t.v∧Bl t.v t.s∧∀q,BE t.s t.v q->¬(fun q_=>q_=m1) q)(n3:b≠m3)(hcap:bs.length<=c9)(hrc1:∀x,a9=some x->bs≠ []->¬(fun q_=>q_=m1) x.block):
  Calls prog 60 #[jp b,.slice a9 bs.length c9] w (AN (fun v_ w'=>v_= .bool true∧(∃s1,At w' m1 (CX ps key (.agg #[.slice (((CN (wV (o.map (·.v)) (Ao ml v)) s1).cart).entries.a) (((CN (wV (o.map (·.v)) (Ao ml v)) s1).cart).entries.len) (((CN (wV (o.map (·.v)) (Ao ml v)) s1).cart).entries.cap),.slice ((((CN (wV (o.map (·.v)) (Ao ml v)) s1).cart).ctx).marks.a) ((((CN (wV (o.map (·.v)) (Ao ml v)) s1).cart).ctx).marks.len) ((((CN (wV (o.map (·.v)) (Ao ml v)) s1).cart).ctx).marks.cap),.slice ((((CN (wV (o.map (·.v)) (Ao ml v)) s1).cart).ctx).cloud.a) ((((CN (wV (o.map (·.v)) (Ao ml v)) s1).cart).ctx).cloud.len) ((((CN (wV (o.map (·.v)) (Ao ml v)) s1).cart).ctx).cloud.cap)]))∧Bf w' s1 (wV (o.map (·.v)) (Ao ml v))∧Bl (wV (o.map (·.v)) (Ao ml v)) s1∧(∀q,BE s1 (wV (o.map (·.v)) (Ao ml v)) q->w.heap.size<=q))∧Ad (fun q_=>q_=m1) w w')):=by
 have hbs2:bs=[UInt8.ofNat 2]++(AW key++Cy v):=by rw[hbs];simp only[Aap,Aaw]
 have htl:=Cu (Bt hnm);have hel:=Hb hent hcan;have hbl:bs.length<=9100:=by rw[hbs];simp only[Aab];have:([UInt8.ofNat 2]:List UInt8).length=1:=rfl;omega
 refine Ac (n:=157) func60 rfl rfl rfl ?_;refine jG ?_;refine jR<|jC (GF (bs:=bs) hrc Zo) ?_;rintro _ a7 ⟨a6,a1,rfl,a2,a0,a3⟩;replace a2:BD a7 a6 a1 bs ([UInt8.ofNat 2]++(AW key++Cy v)):=(congrArg (fun r_=>BD a7 a6 a1 bs r_) hbs2).mp a2;have a8:=Aw a0 hb.lt;have aa:=Ah a0 hM1.oL;have ab:=Ah a0 hM3.oL;have ae:∀q_,a1 q_->q_<w.heap.size->(fun q_=>q_=m1) q_:=Hx (Aac _) a0;have a4:=Bd (Aac _) a0;clear a0;have K0:=(a3:Ap w _).to (S:=(fun q_=>q_=m1));refine jG ?_;refine jR<|jC (Gq _ _ _ _ _ 2 _ a2 rfl) ?_;rintro _ af ⟨rfl,ac,a5⟩;replace K0:=K0.trans a5 (fun x hlt hx=>ae x hx hlt);replace a2:=ac;clear ac;refine jG ?_;refine Ai.condF rfl ?_;refine jG ?_;refine Ai.condF rfl ?_;refine jG ?_;refine C4 ?_;refine jG ?_;have hsz9:w.heap.size<=af.heap.size:=K0.size;replace hb:=(hb.ext a3).keep a5 a8;replace hM1:=(hM1.ext a3).kO a5 (Zf aa);replace hM3:=(hM3.ext a3).kO a5 (Zf ab);refine jR<|jC (Y4 _ _ _ _ _ _ _ qs ma ml mc ps o key v a6 a1 a9 bs c9 _ (by rw[hbs,DT]) (hrc.keepN K0 hrc1) hb hM1 hM3 hgm (hms.keepN K0 hapM) (fun x_ e_ n_ h_=>h_.elim (fun y_=>absurd (EG hms n_ ⟨x_,e_,rfl⟩) (Nat.not_lt.2 (a4 _ y_))) (fun y_=>hapM x_ e_ n_ y_)) n2 n5 Zo hnm hcan hent hvok hcl hwn hget (fun t_ e_=>have h_:=hTo t_ e_;⟨h_.1.kO K0 h_.2.2,h_.2.1,fun q_ hq_ h9_=>h9_.elim (fun y_=>absurd (h_.1.oL q_ hq_) (Nat.not_lt.2 (a4 q_ y_))) (h_.2.2 q_ hq_)⟩) hcap a2 (fun x_ e_ n_ h_=>h_.elim (fun y_=>absurd (EG hrc n_ ⟨x_,e_,rfl⟩) (Nat.not_lt.2 (a4 _ y_))) (fun y_=>hrc1 x_ e_ n_ y_)) a8 (fun h_=>aa _ h_ rfl) (fun h_=>ab _ h_ rfl)) ?_;rintro r9 ad ⟨rfl,hJ9,K9⟩;replace K0:=K0.trans K9 (fun x hlt hx=>(fun(q_:Nat) (h_:a1 q_∨q_=m1) (hl_:q_<w.heap.size)=>h_.elim (fun y_=>absurd hl_ (Nat.not_lt.2 (a4 q_ y_))) (fun e_=>e_)) x hx hlt);have hz9:Ap ad ad:=Ad.refl _ _;refine jG ?_;refine jJ func60 ?_;exact⟨_,rfl,rfl,(have ⟨s1_,x1,x2,x3,x4⟩:=hJ9;⟨s1_,x1.ext hz9,x2.ext hz9,x3,fun q_ h_=>Aaa hsz9 (x4 q_ h_)⟩),K0⟩
end
section
attribute [local irreducible] Ax Ao
section
variable {w w':World}{b d lg m1 m2 m3:Nat}{F F' Z S:Nat->Prop}{st:Int}{pl pl':List PF}{ts ts':List Kc}{ks ks':List Km}{hs hs':List AH}{s:KF}{key:ByteArray}{r:Dt}
def Jc (w:World)(b lg d:Nat)(Z:Nat->Prop)(pl:List PF)(s:KF):Prop:=
 ∃(m1 m2 m3:Nat) (F:Nat->Prop) (st:Int) (ts:List Kc) (ks:List Km) (hs:List AH),Z=EY b lg m1 m2 m3 F ts ks∧H1 w b d lg m1 m2 m3 F pl st ts ks hs∧Dl s st ts ks hs
theorem Jc.oL (h:Jc w b lg d Z pl s):∀q,Z q->q<w.heap.size:=by obtain⟨m1,m2,m3,F,st,ts,ks,hs,rfl,h,-⟩:=h;exact h.lts
theorem Jc.kO (h:Jc w b lg d Z pl s)(k:Ad S w w')(hn:∀q,Z q->¬S q):Jc w' b lg d Z pl s:=by
 obtain⟨m1,m2,m3,F,st,ts,ks,hs,rfl,h,ht⟩:=h;exact⟨m1,m2,m3,F,st,ts,ks,hs,rfl,h.keep k hn,ht⟩
theorem Jc.ext (h:Jc w b lg d Z pl s)(k:Ap w w'):Jc w' b lg d Z pl s:=h.kO k fun _ _=>id
def gk (w:World)(b lg d:Nat)(Z:Nat->Prop)(pl:List PF)(s:KF)(v:Value)(w':World):Prop:=
 v= .bool true∧∃Z':Nat->Prop,Jc w' b lg d Z' pl s∧AL w Z Z'∧Ad Z w w'
theorem OU {x:AH}(h:0<=x.owner):(⟨((x.owner.toNat:Nat):Int),x.key⟩:AH)=x:=by
 cases x;simp only[AH.mk.injEq,and_true];exact AaQ h
theorem Vw {m:Ab}(h:AC (Ab.d m)):(⟨((m.node.toNat:Nat):Int),((m.life.toNat:Nat):Int),((m.count.toNat:Nat):Int)⟩:Ab)=m:=by
 cases m
 simp only[AC,Ab.d]at h
 simp only[Ab.mk.injEq];exact⟨AaQ h.1.1,AaQ Zo,AaQ Zo⟩
theorem Qa {κ:Type}[DecidableEq κ]{ps:List (κ×Value)}{k:κ}{v:Value}(h:(ps.map (·.1)).Nodup):((CX ps k v).map (·.1)).Nodup:=by
 rw[CX]
 split
 ·rename_i i v0 hm
  obtain⟨j,hj,hv⟩:=E7 hm
  rw[Aaq]at hj;subst hj
  obtain⟨hl,he⟩:=List.getElem?_eq_some_iff.1 hv
  rw[List.map_set]
  have h2:(ps.map (·.1))[i]'(by rw[Aad];exact hl)=k:=by rw[Ace,he]
  have h3:(ps.map (·.1)).set i k=ps.map (·.1):=by
   conv=>lhs;rw[<-h2]
   exact List.set_getElem_self _
  show((ps.map (·.1)).set i k).Nodup
  rw[h3];exact h
 ·rename_i hm
  rw[Aam,Abd]
  refine⟨h,by simp,fun a ha b hb=> ?_⟩
  obtain⟨p,hp,rfl⟩:=List.mem_map.1 ha
  rw[Aae,Aau,Aah]at hb
  rw[hb];exact E8 hm p hp
theorem gl {a9 : Option Addr} {c9 : Nat} (h : Jc w b lg d Z pl s) (hL7 : 7 <= w.heap.size) (hr : Ly s r) (hrc : Av w a9 (encK r)) (hcap : (encK r).length <= c9) (hap : ∀ x, a9 = some x -> encK r ≠ [] -> ¬ Z x.block) :
    Calls prog 60 #[jp b, .slice a9 (encK r).length c9] w (AN fun v w' => gk w b lg d Z pl (EL s r) v w') := by
  obtain ⟨m1, m2, m3, F, st, ts, ks, hs, rfl, H, T⟩ := h
  obtain ⟨n1, n2, n3, n4, n5, n6, n7, n8, n9, n10⟩ := H.ne
  obtain ⟨f1, f2, f3, f4, f5⟩ := H.nf
  have q1 : Ca b m1 m2 m3 F b := .inr (.inl rfl)
  have q2 : Ca b m1 m2 m3 F m1 := .inr (.inr (.inl rfl))
  have q3 : Ca b m1 m2 m3 F m2 := .inr (.inr (.inr (.inl rfl)))
  have q4 : Ca b m1 m2 m3 F m3 := .inr (.inr (.inr (.inr rfl)))
  have hsz : (EY b lg m1 m2 m3 F ts ks) b := .inl q1
  cases r with
  | o n =>
    refine (YY b lg m1 m2 m3 0 st n a9 _ c9 w rfl hrc H.blk hr).mono fun e w' hh => ?_
    obtain ⟨v, rfl, rfl, hb, K⟩ := hh
    have K' : Ad (Ca b m1 m2 m3 F) w w' := K.mono fun q _ (e : q = b) => e ▸ q1
    obtain ⟨a, c⟩ := H.step hL7 K' hb (H.disk.kO K fun q hq (e : q = b) => f1 (e ▸ hq)) (AL.refl w F) (H.mc.kO K fun q (e : q = m1) (e2 : q = b) => n2 (e2.symm.trans e)) (H.mh.kO K fun q (e : q = m2) (e2 : q = b) => n3 (e2.symm.trans e)) (H.mm.kO K fun q (e : q = m3) (e2 : q = b) => n4 (e2.symm.trans e)) (fun t ht => .inl ht) (fun x hx => .inl hx)
    exact ⟨_, rfl, rfl, _, ⟨m1, m2, m3, F, _, ts, ks, hs, rfl, a, ⟨rfl, T.c, T.m, T.h⟩⟩, c, K'.mono fun q _ hq => C2 hq⟩
  | j key v =>
    obtain ⟨x1, x2, x3, x4, x5, x6⟩ := hr
    obtain ⟨o, hget, ho, hco⟩ := H.lookC T key
    obtain ⟨ma, mc, hgm, hms, hapM, hsort, hmay, hlen⟩ := H.lookM T key
    rw [hco] at x6
    refine (Y5 b lg m1 m2 m3 0 st _ ma (s.m key) mc _ o key v a9 _ c9 w (by show DT key v = _; rw [DT]) hrc H.blk H.mc H.mm hgm hms (fun x hx hn (e : x.block = m1) => hapM x hx hn (e ▸ q2)) n2 n9 hlen x1 x2 x3 x4 x5 x6 hget
      (fun t ht => ⟨(H.cart t (ho t ht).1).1, (H.cart t (ho t ht).1).2.1, fun q hq (e : q = m1) => (H.cart t (ho t ht).1).2.2 q hq (e ▸ q2)⟩) n4 hcap (fun x hx hn (e : x.block = m1) => hap x hx hn (.inl (e ▸ q2)))).mono fun e w' hh => ?_
    obtain ⟨v', rfl, rfl, ⟨s1, hM, hR1, hok1, hg1⟩, K⟩ := hh
    have K' : Ad (Ca b m1 m2 m3 F) w w' := K.mono fun q _ (e : q = m1) => e ▸ q2
    obtain ⟨ts', e, hts⟩ := DA (kv := Kc.kv) (x := ⟨key, _, s1⟩) (Gp H)
    have hM' : At w' m1 (ts'.map Kc.kv) := e ▸ hM
    obtain ⟨a, c⟩ := H.step hL7 K' (H.blk.keep K n2) (H.disk.kO K fun q hq (e : q = m1) => f3 (e ▸ hq)) (AL.refl w F) hM' (H.mh.kO K fun q (e : q = m2) (e2 : q = m1) => n8 (e2.symm.trans e)) (H.mm.kO K fun q (e : q = m3) (e2 : q = m1) => n9 (e2.symm.trans e)) (fun t ht => ((hts t).1 ht).elim (fun e => .inr (e ▸ ⟨hR1, hok1, hg1, fun q hq hF => absurd (H.disk.oL q hF) (Nat.not_lt.2 (hg1 q hq))⟩)) (fun e => .inl e.1)) (fun x hx => .inl hx)
    have T' := T.put hts
    refine ⟨_, rfl, rfl, _, ⟨m1, m2, m3, F, _, ts', ks, hs, rfl, a, ?_⟩, c, K'.mono fun q _ hq => C2 hq⟩
    rw [EL, hco]; exact T'
  | d key =>
    refine (YZ b lg m1 m2 m3 0 st _ key a9 _ c9 w rfl hrc H.blk H.mc n2 hr).mono fun e w' hh => ?_
    obtain ⟨v, rfl, rfl, hM, K⟩ := hh
    have K' : Ad (Ca b m1 m2 m3 F) w w' := K.mono fun q _ (e : q = m1) => e ▸ q2
    obtain ⟨ts', e, hts⟩ := Hs (kv := Kc.kv) (key := key) (Gp H)
    have hM' : At w' m1 (ts'.map Kc.kv) := e ▸ hM
    obtain ⟨a, c⟩ := H.step hL7 K' (H.blk.keep K n2) (H.disk.kO K fun q hq (e : q = m1) => f3 (e ▸ hq)) (AL.refl w F) hM' (H.mh.kO K fun q (e : q = m2) (e2 : q = m1) => n8 (e2.symm.trans e)) (H.mm.kO K fun q (e : q = m3) (e2 : q = m1) => n9 (e2.symm.trans e)) (fun t ht => .inl ((hts t).1 ht).1) (fun x hx => .inl hx)
    exact ⟨_, rfl, rfl, _, ⟨m1, m2, m3, F, _, ts', ks, hs, rfl, a, T.del hts⟩, c, K'.mono fun q _ hq => C2 hq⟩
  | h x =>
    obtain ⟨⟨x1, x2⟩, x3⟩ := hr
    refine (Y0 b lg m1 m2 m3 0 st _ x.owner.toNat x.key a9 _ c9 w rfl hrc H.blk H.mh n3 Zo x3).mono fun e w' hh => ?_
    obtain ⟨v, rfl, rfl, hM, K⟩ := hh
    rw [OU x1] at hM
    have K' : Ad (Ca b m1 m2 m3 F) w w' := K.mono fun q _ (e : q = m2) => e ▸ q3
    obtain ⟨hs', e, hhs⟩ := DA (kv := J2) (x := x) (ID H)
    have hM' : At w' m2 (hs'.map J2) := e ▸ hM
    obtain ⟨a, c⟩ := H.step hL7 K' (H.blk.keep K n3) (H.disk.kO K fun q hq (e : q = m2) => f4 (e ▸ hq)) (AL.refl w F) (H.mc.kO K fun q (e : q = m1) (e2 : q = m2) => n8 (e.symm.trans e2)) hM' (H.mm.kO K fun q (e : q = m3) (e2 : q = m2) => n10 (e2.symm.trans e)) (fun t ht => .inl ht) (fun x hx => .inl hx)
    refine ⟨_, rfl, rfl, _, ⟨m1, m2, m3, F, _, ts, ks, hs', rfl, a, T.hint fun y => ?_⟩, c, K'.mono fun q _ hq => C2 hq⟩
    rw [hhs, T.h]
    by_cases c : y = x
    · simp [c]
    · exact ⟨fun k => .inr ⟨k.resolve_left c, c⟩, fun k => .inr (k.resolve_left c).1⟩
  | u x =>
    obtain ⟨⟨x1, x2⟩, x3⟩ := hr
    refine (Y1 b lg m1 m2 m3 0 st _ x.owner.toNat x.key a9 _ c9 w rfl hrc H.blk H.mh n3 Zo x3).mono fun e w' hh => ?_
    obtain ⟨v, rfl, rfl, hM, K⟩ := hh
    rw [OU x1] at hM
    have K' : Ad (Ca b m1 m2 m3 F) w w' := K.mono fun q _ (e : q = m2) => e ▸ q3
    obtain ⟨hs1, e1, hh1⟩ := DA (kv := J2) (x := x) (ID H)
    rw [show CX (hs.map J2) x (.agg #[]) = hs1.map J2 from e1] at hM
    obtain ⟨hs', e, hhs⟩ := Hs (kv := J2) (l := hs1) (key := x) (by
      have := H.mh.nodup
      have h2 := Qa (v := (.agg #[] : Value)) (k := x) this
      rw [show CX (hs.map J2) x (.agg #[]) = hs1.map J2 from e1, Aat] at h2
      exact h2)
    have hM' : At w' m2 (hs'.map J2) := e ▸ hM
    obtain ⟨a, c⟩ := H.step hL7 K' (H.blk.keep K n3) (H.disk.kO K fun q hq (e : q = m2) => f4 (e ▸ hq)) (AL.refl w F) (H.mc.kO K fun q (e : q = m1) (e2 : q = m2) => n8 (e.symm.trans e2)) hM' (H.mm.kO K fun q (e : q = m3) (e2 : q = m2) => n10 (e2.symm.trans e)) (fun t ht => .inl ht) (fun x hx => .inl hx)
    refine ⟨_, rfl, rfl, _, ⟨m1, m2, m3, F, _, ts, ks, hs', rfl, a, T.hint fun y => ?_⟩, c, K'.mono fun q _ hq => C2 hq⟩
    rw [hhs, hh1, T.h]
    exact ⟨fun ⟨k1, k2⟩ => ⟨.inr ⟨k2, k1⟩, k1⟩, fun ⟨k1, k2⟩ => ⟨k2, (k1.resolve_left k2).1⟩⟩
  | r key m =>
    obtain ⟨x1, x2, x3, x4⟩ := hr
    obtain ⟨o, hget, ho, hco⟩ := H.lookC T key
    obtain ⟨ma, mc, hgm, hms, hapM, hsort, hmay, hlen⟩ := H.lookM T key
    have hft : ∀ q, (q = m1 ∨ q = m3) -> Ca b m1 m2 m3 F q := fun q hq => hq.elim (fun e => e ▸ q2) (fun e => e ▸ q4)
    have hmn := Vw x2
    have hres := Y3 b lg m1 m2 m3 0 st _ ma (s.m key) mc _ o m.node.toNat m.life.toNat m.count.toNat key a9 _ c9 w rfl hrc H.blk H.mc H.mm hgm hms (fun x hx hn e => hapM x hx hn (hft _ e)) n2 n4 n9 hsort hmay x1 (by rw [hmn]; exact x2) (by rw [hmn]; exact x3) hlen hget
      (fun t ht => ⟨(H.cart t (ho t ht).1).1, (H.cart t (ho t ht).1).2.1, fun q hq e => (H.cart t (ho t ht).1).2.2 q hq (hft q e)⟩)
    rw [hmn] at hres
    refine hres.mono fun e w' hh => ?_
    obtain ⟨v, rfl, rfl, ⟨a', c', hMm, hS, hga, hcs⟩, K⟩ := hh
    have K' : Ad (Ca b m1 m2 m3 F) w w' := K.mono fun q _ hq => hft q hq
    obtain ⟨ks', e, hks'⟩ := DA (kv := Km.kv) (x := ⟨key, a', c', setM (s.m key) (Ab.d m)⟩) (Lk H)
    have hMm' : At w' m3 (ks'.map Km.kv) := e ▸ hMm
    have hD : AG w' d F 4194304 pl := H.disk.kO K fun q hq e => e.elim (fun e => f3 (e ▸ hq)) (fun e => f5 (e ▸ hq))
    have hMh : At w' m2 (hs.map J2) := H.mh.kO K fun q (e : q = m2) e2 => e2.elim (fun e2 => n8 (e2.symm.trans e)) (fun e2 => n10 (e.symm.trans e2))
    have hb := H.blk.keep K (fun e => e.elim n2 n4)
    have hnew : Av w' a' (setM (s.m key) (Ab.d m)) ∧ (∀ q, own a' q -> w.heap.size <= q) ∧ (∀ q, own a' q -> ¬ F q) ∧ (setM (s.m key) (Ab.d m)).Pairwise BH ∧ (∀ y ∈ setM (s.m key) (Ab.d m), AC (Ab.d y)) ∧ (setM (s.m key) (Ab.d m)).length <= 1000 ∧ setM (s.m key) (Ab.d m) ≠ [] :=
      ⟨hS, hga, fun q hq hF => absurd (H.disk.oL q hF) (Nat.not_lt.2 (hga q hq)), FH hsort, fun y hy => (G7 hy).elim (fun e => e ▸ x2) (hmay y), Aaa (Iu _ _) x4, J3⟩
    have T1 := T.mark hks'
    rcases hcs with ⟨rfl, hM⟩ | ⟨t, s', rfl, hM, hR', hok', hgd⟩
    · obtain ⟨a, c⟩ := H.step hL7 K' hb hD (AL.refl w F) hM hMh hMm' (fun t ht => .inl ht) (fun x hx => ((hks' x).1 hx).elim (fun e => .inr (e ▸ hnew)) (fun e => .inl e.1))
      refine ⟨_, rfl, rfl, _, ⟨m1, m2, m3, F, _, ts, ks', hs, rfl, a, ?_⟩, c, K'.mono fun q _ hq => C2 hq⟩
      refine ⟨T1.st, fun k v => ?_, T1.m, T1.h⟩
      rw [<- T.c]
      show GO s.c key _ k = some v ↔ _
      by_cases e : k = key
      · subst e; rw [E4, hco]; exact Iff.rfl
      · rw [Ei e]
    · obtain ⟨ts', e, hts⟩ := DA (kv := Kc.kv) (x := ⟨key, Ax t.v (AZ m), s'⟩) (Gp H)
      have hM' : At w' m1 (ts'.map Kc.kv) := e ▸ hM
      obtain ⟨a, c⟩ := H.step hL7 K' hb hD (AL.refl w F) hM' hMh hMm' (fun t ht => ((hts t).1 ht).elim (fun e => .inr (e ▸ ⟨hR', hok', hgd, fun q hq hF => absurd (H.disk.oL q hF) (Nat.not_lt.2 (hgd q hq))⟩)) (fun e => .inl e.1)) (fun x hx => ((hks' x).1 hx).elim (fun e => .inr (e ▸ hnew)) (fun e => .inl e.1))
      refine ⟨_, rfl, rfl, _, ⟨m1, m2, m3, F, _, ts', ks', hs, rfl, a, ?_⟩, c, K'.mono fun q _ hq => C2 hq⟩
      have T2 := T1.put hts
      rw [EL, hco]; exact T2
def Ll (ts:List Kc)(ks:List Km):Nat->Prop:=fun q=>(∃t∈ts,BE t.s t.v q)∨∃k∈ks,k.l≠ []∧own k.a q
structure Fv (w:World)(ts:List Kc)(ks:List Km):Prop where
 cart:∀t∈ts,Bf w t.s t.v∧Bl t.v t.s
 mark:∀k∈ks,Av w k.a k.l∧k.l.Pairwise BH∧(∀x∈k.l,AC (Ab.d x))∧k.l.length<=1000∧k.l≠ []
theorem Fv.oL (h:Fv w ts ks):∀q,Ll ts ks q->q<w.heap.size:=by
 rintro q (⟨t,ht,hq⟩|⟨k,hk,hn,hq⟩)
 ·exact(h.cart t ht).1.oL q hq
 ·exact EG (h.mark k hk).1 hn hq
theorem Fv.kO (h:Fv w ts ks)(k:Ad S w w')(hn:∀q,Ll ts ks q->¬S q):Fv w' ts ks:=
 ⟨fun t ht=>⟨(h.cart t ht).1.kO k (fun q hq=>hn q (.inl ⟨t,ht,hq⟩)),(h.cart t ht).2⟩,fun x hx=>⟨(h.mark x hx).1.keepN k (fun y hy he=>hn _ (.inr ⟨x,hx,he,y,hy,rfl⟩)),(h.mark x hx).2⟩⟩
theorem Fv.ext (h:Fv w ts ks)(k:Ap w w'):Fv w' ts ks:=h.kO k fun _ _=>id
theorem H1.rest (h:H1 w b d lg m1 m2 m3 F pl st ts ks hs):Fv w ts ks∧∀q,Ll ts ks q->¬Ca b m1 m2 m3 F q:=by
 refine⟨⟨fun t ht=>⟨(h.cart t ht).1,(h.cart t ht).2.1⟩,fun k hk=>⟨(h.mark k hk).1,(h.mark k hk).2.2⟩⟩,?_⟩
 rintro q (⟨t,ht,hq⟩|⟨k,hk,hn,x,hx,rfl⟩)
 ·exact(h.cart t ht).2.2 q hq
 ·exact(h.mark k hk).2.1 x hx hn
theorem H1.of (hb:AB w b [.int .i32 0,.int .u32 0,jp lg,.int .i64 st,.map (some m1),.map (some m2),.map (some m3)] 94)(hl:AB w lg [jp d] 161)(hD:AG w d F 4194304 pl)(h1:At w m1 (ts.map Kc.kv))(h2:At w m2 (hs.map J2))(h3:At w m3 (ks.map Km.kv))(hg:(∀q,F q->7<=q)∧7<=b∧7<=m1∧7<=m2∧7<=m3)
  (hne:b≠lg∧b≠m1∧b≠m2∧b≠m3∧m1≠lg∧m2≠lg∧m3≠lg∧m1≠m2∧m1≠m3∧m2≠m3) (hnf:¬F b∧¬F lg∧¬F m1∧¬F m2∧¬F m3) (hr:Fv w ts ks) (ha:∀q,Ll ts ks q->¬Ca b m1 m2 m3 F q):H1 w b d lg m1 m2 m3 F pl st ts ks hs:=
 ⟨hb,hl,hD,h1,h2,h3,fun q hq=>by rcases hq with e|rfl|rfl|rfl|rfl<;>first|exact hg.1 _ e|exact hg.2.1|exact hg.2.2.1|exact hg.2.2.2.1|exact hg.2.2.2.2,hne,hnf,
  fun t ht=>⟨(hr.cart t ht).1,(hr.cart t ht).2,fun q hq=>ha q (.inl ⟨t,ht,hq⟩)⟩,fun k hk=>⟨(hr.mark k hk).1,fun x hx hn=>ha _ (.inr ⟨k,hk,hn,x,hx,rfl⟩),(hr.mark k hk).2⟩⟩
def kf0 :KF:=⟨0,fun _=>none,fun _=>[],fun _=>False⟩
theorem tells0 :Dl kf0 0 [] [] []:=⟨rfl,fun _ _=>⟨(fun h=>nomatch h),(fun⟨_,h,_⟩=>nomatch h)⟩,fun _=> .inr ⟨(fun _ h=>nomatch h),rfl⟩,fun _=>⟨False.elim,(fun h=>nomatch h)⟩⟩
theorem rest0 :Fv w [] []:=⟨(fun _ h=>nomatch h),(fun _ h=>nomatch h)⟩
noncomputable def FV (s:KF)(rs:List Dt):KF:=rs.foldl EL s
def OkRun :KF->List Dt->Prop
 |_,[]=>True
 |s,r::rs=>Ly s r∧OkRun (EL s r) rs
theorem Tc {rs:List Dt}{i:Nat}{r:Dt}(h:rs[i]? =some r):FV s (rs.take (i+1))=EL (FV s (rs.take i)) r:=by
 rw[FV,Da h,Abf];rfl
theorem OkRun.at {rs : List Dt} : ∀ {s : KF} {i : Nat}, OkRun s rs -> rs[i]? = some r -> Ly (FV s (rs.take i)) r := by
  induction rs with
  | nil => intro s i _ h; cases i <;> cases h
  | cons x rs ih =>
    intro s i h hx
    cases i with
    | zero => obtain rfl := Option.some.inj hx; exact h.1
    | succ i => exact ih h.2 hx
end
end
section
attribute [local irreducible] Ax Ao encK
section
variable {w w':World}{b d lg m1 m2 m3:Nat}{F Z:Nat->Prop}{pl:List PF}{s:KF}{r:Dt}
theorem Ht {P:Nat->Prop}(hF:∀q,F q->P q)(hb:P b)(h1:P m1)(h2:P m2)(h3:P m3)(hl:P lg):∀q,EY b lg m1 m2 m3 F [] [] q->P q:=by
 rintro q ((hq|rfl|rfl|rfl|rfl)|rfl|⟨_,hq,_⟩|⟨_,hq,_⟩)
 ·exact hF q hq
 ·exact hb
 ·exact h1
 ·exact h2
 ·exact h3
 ·exact hl
 ·cases hq
 ·cases hq
theorem Y6 {a9:Option Addr}{c9:Nat}{bs:List UInt8}(hbs:bs=encK r)(h:Jc w b lg d Z pl s)(hL7:7<=w.heap.size)(hr:Ly s r)(ho:Af w 5 a9 c9 bs)(hap:∀q,Z q->¬own a9 q):
  Calls prog 60 #[jp b,.slice a9 bs.length c9] w (AN fun v w'=>gk w b lg d Z pl (EL s r) v w'):=by
 subst hbs
 exact gl h hL7 hr ho.sl ho.le_cap fun x hx _ hz=>hap _ hz ⟨x,hx,rfl⟩
theorem Hu {α:Type}[Enc α]{T T':TypeId}{a:Option Addr}{cap:Nat}{xs:List α}{c:List Value}(h:Af w T a cap xs)(hb:AB w b c T')(hT:T≠T'):¬own a b:=by
 rintro⟨x,rfl,rfl⟩
 rcases h.cases with⟨e,_⟩|⟨g,cur,e,hg,_⟩
 ·cases e
 ·obtain rfl:=Option.some.inj e
  have:=hg.symm.trans hb
  simp only[Option.some.injEq,Obj.cells.injEq]at this
  exact hT this.2.1
theorem Qb {rs:List RB}{c:List Value}{T':TypeId}(h:BJ w rs)(hb:AB w b c T')(hT:5≠T'):¬Bi rs b:=fun⟨r,hr,ho⟩=>Hu (h r hr) hb hT ho
theorem Y7 {rs:List RB}{ks:List Dt}{i:Nat}{x:RB}(h:rs.map RB.b=ks.map encK)(hx:rs[i]? =some x):∃k,ks[i]? =some k∧x.b=encK k:=by
 have h2:=congrArg (fun l=>l[i]?) h
 simp only[Aax,hx,AaH]at h2
 cases hk:ks[i]? with
 |none=>rw[hk]at h2;cases h2
 |some k=>rw[hk]at h2;exact⟨k,rfl,Option.some.inj h2⟩
end
attribute [local irreducible] X
theorem Ry (d:Nat)(F:Nat->Prop)(pl:List PF)(rs0:List Dt)(n:Nat)(w:World)(hD:AG w d F 4194304 pl)(hL:A2 w)(hFG:∀q,F q->7<=q)(ho:(A1 4194304 pl).1=0)(hr0:(A1 4194304 pl).2.1=rs0.map encK)(hok:OkRun kf0 rs0)(hst:(FV kf0 rs0).st=((n:Nat):Int))(hn:n<1048575)(hl0:rs0.length<=1000000)(hA:(Ay 4194304 (A1 4194304 pl).2.2 ([UInt8.ofNat 1]++Aq (n+1))).1=0):
  Calls prog 19 #[jp d] w (AN (fun v w'=>∃b Z',v= .tuple #[jp b,.int .i64 0]∧GN w' b d Z' (Fi (Ay 4194304 (A1 4194304 pl).2.2 ([UInt8.ofNat 1]++Aq (n+1))).2) (EL (FV kf0 rs0) (.o (n+1)))∧AL w F Z'∧Ad F w w')):=by
 have hLs:=hL.size;refine Ac (n:=65) func19 rfl rfl rfl ?_;refine jG ?_;refine jR<|jC (Yp _ _ _ _ _ hD hL hFG) ?_;rintro vv bS ⟨ai,a5,aC,aM,ax⟩;rcases ax with ax|ax
 ·obtain⟨bT,au,aN,a6,a0,rfl,a4,b2,b3,a1,a2,b4,bU,bV,bW,b5,b6⟩:=ax
  have:w.heap.size<=a0:=Aaa (Aac _) b3;have b7:∀q_,ai q_->q_<w.heap.size->F q_:=aC.inS (fun q_ h_ _=>h_) (Aac _);have aO:∀q_,ai q_->7<=q_:=fun q_ h_=>(aC q_ h_).elim (hFG q_) (fun h2_=>Aaa hLs (Aaa (Aac _) h2_));have K0:=(Ad.refl F w).trans aM (fun x hlt hx=>(fun q_ h_ _=>h_) x hx hlt);clear aC;have hnl1:=Hu a1 a4 Zd;have hnl2:=Qb a2 a4 Zd;have hrs9:a6.map RB.b=rs0.map encK:=b4.trans hr0;have hrl9:(a6.map RB.h).length=rs0.length:=by have h9:=congrArg List.length hrs9;rw[Aad,Aad]at h9;rw[Aad];exact h9
  refine jG ?_;refine Ai.condF rfl ?_;refine jG ?_;refine jR<|AA.makeMap (κ:=ByteArray) ?_;intro a7 bX av ab aw;have b8:=Ah (Bw av) a5.oL;have b9:=Ah (Bw av) a1.oL;have ba:=Ah (Bw av) a2.oL;have bb:=Aw (Bw av) a4.lt;have aD:=Bd K0.size (Bw av);clear av;refine jR<|AA.makeMap (κ:=AH) ?_;intro a8 bY ap aq ar;replace a5:=a5.ext aw;have bc:=Ah (Bw ap) a5.oL;replace a1:=a1.ext aw;have be:=Ah (Bw ap) a1.oL;replace a2:=a2.ext aw;have bg:=Ah (Bw ap) a2.oL;replace a4:=a4.ext aw;have bh:=Aw (Bw ap) a4.lt;have bi:=Ah (Bw ap) ab.oL;replace K0:=K0.ext aw;have aE:=Bd K0.size (Bw ap);clear ap;refine jR<|AA.makeMap (κ:=ByteArray) ?_;intro a9 bZ aj ay ak;replace a5:=a5.ext ar;have bj:=Ah (Bw aj) a5.oL;replace a1:=a1.ext ar;have bk:=Ah (Bw aj) a1.oL;replace a2:=a2.ext ar;have bl:=Ah (Bw aj) a2.oL;replace a4:=a4.ext ar;have bm:=Aw (Bw aj) a4.lt;replace ab:=ab.ext ar;have bn:=Ah (Bw aj) ab.oL;have bo:=Ah (Bw aj) aq.oL;replace K0:=K0.ext ar;have aF:=Bd K0.size (Bw aj);clear aj;refine jV (AI (cells:=#[.int .i32 0,.int .u32 0,jp a0,.int .i64 0,.map (some a7),.map (some a8),.map (some a9)]) Zk) ?_;refine jR<|jB ?_;intro a3 bp ac bq ad;replace a4:=a4.ext ak;have c0:=Ak a4.lt ac;replace a5:=a5.ext ak;have bs:=An a5.oL ac;replace a1:=a1.ext ak;have bt:=An a1.oL ac;replace a2:=a2.ext ak;have bu:=An a2.oL ac;replace ab:=ab.ext ak;have bv:=An ab.oL ac;replace aq:=aq.ext ak;have bw:=An aq.oL ac;have bx:=An ay.oL ac;replace K0:=K0.ext ak;have:=Aaa K0.size ac;clear ac;have hne9:a3≠a0∧a3≠a7∧a3≠a8∧a3≠a9∧a7≠a0∧a8≠a0∧a9≠a0∧a7≠a8∧a7≠a9∧a8≠a9:=⟨by omega,fun e_=>bv e_,fun e_=>bw e_,fun e_=>bx e_,fun e_=>bb e_.symm,fun e_=>bh e_.symm,fun e_=>bm e_.symm,fun e_=>(Zf bi) _ rfl e_,fun e_=>(Zf bn) _ rfl e_,fun e_=>(Zf bo) _ rfl e_⟩;replace a5:=a5.ext ad;replace a4:=a4.ext ad;replace ab:=ab.ext ad;replace aq:=aq.ext ad;replace ay:=ay.ext ad;have hS9:Jc bp a3 a0 d (EY a3 a0 a7 a8 a9 ai [] []) (A1 4194304 pl).2.2 (FV kf0 (rs0.take 0)):=⟨a7,a8,a9,ai,0,[],[],[],rfl,H1.of bq a4 a5 ab aq ay ⟨aO,by omega,Aaa hLs (aD _ rfl),Aaa hLs (aE _ rfl),Aaa hLs (aF _ rfl)⟩ hne9 ⟨bs,b2,(fun e_=>(Zf b8) _ e_ rfl),(fun e_=>(Zf bc) _ e_ rfl),(fun e_=>(Zf bj) _ e_ rfl)⟩ rest0 (fun q_ h_=>by rcases h_ with⟨_,h_,_⟩|⟨_,h_,_⟩<;>cases h_),tells0⟩;have bz:∀q_,(EY a3 a0 a7 a8 a9 ai [] []) q_->¬own au q_:=Ht (P:=fun q_=>¬own au q_) (Zf b5) bt (b9 _ rfl) (be _ rfl) (bk _ rfl) hnl1;have bA:∀q_,(EY a3 a0 a7 a8 a9 ai [] []) q_->¬Bi a6 q_:=Ht (P:=fun q_=>¬Bi a6 q_) (Zf b6) bu (ba _ rfl) (bg _ rfl) (bl _ rfl) hnl2;have hS0:∀q_,(EY a3 a0 a7 a8 a9 ai [] []) q_->q_<w.heap.size->F q_:=Ht (P:=fun q_=>q_<w.heap.size->F q_) b7 (fun l_=>absurd l_ Zo) (fun l_=>absurd l_ (Nat.not_lt.2 (aD _ rfl))) (fun l_=>absurd l_ (Nat.not_lt.2 (aE _ rfl))) (fun l_=>absurd l_ (Nat.not_lt.2 (aF _ rfl))) (fun l_=>absurd l_ Zo);have hSG:∀q_,(EY a3 a0 a7 a8 a9 ai [] []) q_->7<=q_:=Ht (P:=fun q_=>7<=q_) aO Zo (Aaa hLs (aD _ rfl)) (Aaa hLs (aE _ rfl)) (Aaa hLs (aF _ rfl)) Zo;refine jG ?_;replace hL:=((((hL.keep aM hFG).ext aw).ext ar).ext ak).ext ad;replace a1:=a1.ext ad;replace a2:=a2.ext ad;replace K0:=K0.ext ad;refine Ai.loop (ι:=Nat) (fun i ρ' w'=>∃Zk9:Nat->Prop,Holds ρ' [(4,jp a0),(7,jp a3),(25,.slice au ((a6.map RB.h).length) aN),(26,.int .i64 (((a6.map RB.h).length:Nat):Int)),(27,.int .i64 ((i:Nat):Int))]∧Ad F w w'∧(A2 w')∧(Af w' 98 au aN (a6.map RB.h))∧(BJ w' a6)∧(Jc w' a3 a0 d Zk9 ((A1 4194304 pl).2.2) (FV kf0 (rs0.take i)))∧(∀q_,Zk9 q_->¬own au q_)∧(∀q_,Zk9 q_->¬Bi a6 q_)∧(∀q_,Zk9 q_->q_<w.heap.size->F q_)∧(∀q_,Zk9 q_->7<=q_)∧(i<=(a6.map RB.h).length)) (fun i=>(a6.map RB.h).length-i) 0 ?_ ?_
  ·refine⟨_,⟨rfl,rfl,rfl,rfl,rfl,trivial⟩,K0,hL,a1,a2,hS9,bz,bA,hS0,hSG,?_⟩
   ·omega
  clear a1 a2 hS9;clear K0;rintro i c1 c2 ⟨Zk9,aP,K0,hL,a1,a2,aQ,aR,aG,aH,aI,hi⟩ ih1;obtain⟨ρ₀,rfl⟩:=aP.ex;clear aP;refine jG ?_;refine jF ?_ ?_
  ·intro hc28
   obtain⟨c3,c4,hh_,hh,c5,c6⟩:=a1.sl.eo i;obtain⟨r,hr,hre,hrm⟩:=Um hh;subst hre;obtain⟨k9,hk9,hkb⟩:=Y7 hrs9 hr;refine jG ?_;refine jR<|jC (Y6 hkb aQ (Aaa hLs K0.size) (OkRun.at hok hk9) (a2 r hrm) (fun q_ h1_ h2_=>aG q_ h1_ ⟨r,hrm,h2_⟩)) ?_;rintro _ c7 ⟨rfl,az,aS,aA,aB⟩;rw[<-Tc hk9]at aS;have bB:∀q_,az q_->¬own au q_:=aA.apart aR a1.oL;have bC:∀q_,az q_->¬Bi a6 q_:=aA.apart aG a2.oL;have bD:∀q_,az q_->q_<w.heap.size->F q_:=aA.inS aH K0.size;have bE:∀q_,az q_->7<=q_:=fun q_ h_=>(aA q_ h_).elim (aI q_) (fun h2_=>Aaa hLs (Aaa K0.size h2_));replace K0:=K0.trans aB (fun x hlt hx=>aH x hx hlt);refine jV (Bn (b:=true) rfl) ?_;refine jG ?_;refine Ai.condF rfl ?_;refine jG ?_;refine jV (Az (c:=((i+1:Nat):Int)) (Au rfl rfl Zo Zo) rfl) ?_;refine jG ?_;refine ih1 (i+1) _ _ ?_ Zo;replace hL:=hL.keep aB aI;replace a1:=a1.kO aB (Zf aR);replace a2:=a2.kO aB (Zf aG);refine⟨_,⟨rfl,rfl,rfl,rfl,rfl,trivial⟩,K0,hL,a1,a2,aS,bB,bC,bD,bE,?_⟩
   ·omega
  ·intro hc28
   have hie:i=(a6.map RB.h).length:=by omega
   have hil:rs0.take i=rs0:=AaA (by have h9:=congrArg List.length hrs9;rw[Aad,Aad]at h9;rw[hie,Aad];omega);have aT:=aQ;rw[hil]at aT;obtain⟨m1,m2,m3,F9,st9,ts9,ks9,hs9,hZ9,H9,T9⟩:=aT;obtain⟨hrest,hapr⟩:=H9.rest;obtain⟨n1,n2,n3,n4,n5,n6,n7,n8,n9,n10⟩:=H9.ne;obtain⟨f1,f2,f3,f4,f5⟩:=H9.nf;obtain rfl:st9=((n:Nat):Int):=T9.st.symm.trans hst;have hZ0:∀q_,EY a3 a0 m1 m2 m3 F9 ts9 ks9 q_->q_<w.heap.size->F q_:=hZ9▸aH;have hZG:∀q_,EY a3 a0 m1 m2 m3 F9 ts9 ks9 q_->7<=q_:=hZ9▸aI;have hbS:=H9.blk;have hlS:=H9.log;have hDS:=H9.disk;have hM1:=H9.mc;have hM2:=H9.mh;have hM3:=H9.mm;refine jG ?_;refine jF ?_ ?_
   ·intro hc40
    exfalso;omega
   ·intro hc40
    refine jG ?_;refine jV (Az (c:=((n+1:Nat):Int)) (Au rfl rfl Zo Zo) rfl) ?_;refine jR<|AA.buildSlice ([((n+1:Nat):Int)]:List Int) underlying185 ty3 rfl rfl Ze ?_;intro bF c8 bG bH ae;clear bG;refine jR<|jC (Vs 1 (n+1) (some ⟨bF,0,none⟩) (([((n+1:Nat):Int)]:List Int).length) _ Zd bH.sl Zo) ?_;rintro _ c9 ⟨ca,cb,rfl,bI,aU,af⟩;replace hDS:=hDS.ext ae;have bJ:=Ah aU hDS.oL;clear aU;replace hL:=(hL.ext ae).ext af;replace hlS:=(hlS.ext ae).ext af;replace hDS:=hDS.ext af;refine jR<|jC (EE (EF _ _ _ _ _ _ ([UInt8.ofNat 1]++Aq (n+1)) _ _ hlS hDS f2 hL (fun q_ h_=>hZG q_ (Or.inl (Or.inl h_))) bI.sl (fun x_ hx_=>bJ _ ⟨x_,hx_,rfl⟩)) hA rfl) ?_;rintro _ cc ⟨al,rfl,bK,ag,am⟩;replace hbS:=(hbS.ext ae).ext af;have aV:¬al a3:=ag.not f1 hbS.lt;have aJ:¬al a0:=ag.not f2 hlS.lt;replace hM1:=(hM1.ext ae).ext af;have aW:∀q_,al q_->¬one m1 q_:=ag.apart (fun q_ h_ (e_:q_=m1)=>f3 (e_▸h_)) hM1.oL;replace hM2:=(hM2.ext ae).ext af;have aX:∀q_,al q_->¬one m2 q_:=ag.apart (fun q_ h_ (e_:q_=m2)=>f4 (e_▸h_)) hM2.oL;replace hM3:=(hM3.ext ae).ext af;have aY:∀q_,al q_->¬one m3 q_:=ag.apart (fun q_ h_ (e_:q_=m3)=>f5 (e_▸h_)) hM3.oL;replace hrest:=(hrest.ext ae).ext af;have aZ:∀q_,al q_->¬Ll ts9 ks9 q_:=ag.apart (fun q_ h_ h2_=>hapr q_ h2_ (Or.inl h_)) hrest.oL;replace K0:=(K0.ext ae).ext af;have b0:∀q_,al q_->q_<w.heap.size->F q_:=ag.inS (fun q_ h_=>hZ0 q_ (Or.inl (Or.inl h_))) K0.size;have aK:∀q_,al q_->7<=q_:=fun q_ h_=>(ag q_ h_).elim ((fun q_ h_=>hZG q_ (Or.inl (Or.inl h_))) q_) (fun h2_=>Aaa hLs (Aaa K0.size h2_));replace K0:=K0.trans am (fun x hlt hx=>(fun q_ h_=>hZ0 q_ (Or.inl (Or.inl h_))) x hx hlt);clear ag;refine jG ?_;refine C4 ?_;refine jG ?_;replace hL:=hL.keep am (fun q_ h_=>hZG q_ (Or.inl (Or.inl h_)));replace hlS:=hlS.keep am f2;refine jR<|jC (Uh _ _ _ _ _ _ hlS bK aJ hL aK) ?_;rintro _ cd ⟨aa,rfl,aL,ah,an⟩;replace hbS:=hbS.keep am f1;have b1:¬aa a3:=ah.not aV hbS.lt;have bL:¬aa a0:=ah.not aJ hlS.lt;replace hM1:=hM1.kO am (fun q_ h1 h2=>(fun q_ h_ (e_:q_=m1)=>f3 (e_▸h_)) q_ h2 h1);have bM:∀q_,aa q_->¬one m1 q_:=ah.apart aW hM1.oL;replace hM2:=hM2.kO am (fun q_ h1 h2=>(fun q_ h_ (e_:q_=m2)=>f4 (e_▸h_)) q_ h2 h1);have bN:∀q_,aa q_->¬one m2 q_:=ah.apart aX hM2.oL;replace hM3:=hM3.kO am (fun q_ h1 h2=>(fun q_ h_ (e_:q_=m3)=>f5 (e_▸h_)) q_ h2 h1);have bO:∀q_,aa q_->¬one m3 q_:=ah.apart aY hM3.oL;replace hrest:=hrest.kO am (fun q_ h1 h2=>(fun q_ h_ h2_=>hapr q_ h2_ (Or.inl h_)) q_ h2 h1);have bP:∀q_,aa q_->¬Ll ts9 ks9 q_:=ah.apart aZ hrest.oL;have bQ:∀q_,aa q_->q_<w.heap.size->F q_:=ah.inS b0 K0.size;have bR:∀q_,aa q_->7<=q_:=fun q_ h_=>(ah q_ h_).elim (aK q_) (fun h2_=>Aaa hLs (Aaa K0.size h2_));replace K0:=K0.trans an (fun x hlt hx=>b0 x hx hlt);clear ah;refine jG ?_;refine Ai.condF rfl ?_;replace hbS:=hbS.keep an aV;refine jG ?_;refine jV (Az (c:=((n+1:Nat):Int)) (Au rfl rfl Zo Zo) rfl) ?_;refine jG ?_;refine jR<|jS hbS ?_;intro ce hbS ao;replace K0:=K0.n1 ao;refine jG ?_;refine jK func19 ?_;have hap2:∀q_,Ll ts9 ks9 q_->¬Ca a3 m1 m2 m3 aa q_:=fun q_ h_ e_=>e_.elim (fun x_=>bP q_ x_ h_) (fun x_=>hapr q_ h_ (Or.inr x_));replace hL:=(hL.keep an aK).keep ao Zw;replace hlS:=(hlS.keep an aJ).kp ao;replace hM1:=(hM1.kO an (Zf aW)).kO ao (Zx (fun e_=>n2 e_));replace hM2:=(hM2.kO an (Zf aX)).kO ao (Zx (fun e_=>n3 e_))
    replace hM3:=(hM3.kO an (Zf aY)).kO ao (Zx (fun e_=>n4 e_));replace hrest:=(hrest.kO an (Zf aZ)).kO ao (Zx (fun h_=>hapr _ h_ (Or.inr (Or.inl rfl))));replace aL:=aL.kO ao (Aa b1)
    have hmv:AL w F (EY a3 a0 m1 m2 m3 aa ts9 ks9):=by
     have hz:∀q_,EY a3 a0 m1 m2 m3 F9 ts9 ks9 q_->F q_∨w.heap.size<=q_:=fun q_ h_=>(Abo q_ w.heap.size).elim (fun l_=> .inl (hZ0 q_ h_ l_)) .inr;rintro q_ ((h_|h_)|h_)
     ·exact(Abo q_ w.heap.size).elim (fun l_=> .inl (bQ q_ h_ l_)) .inr
     ·exact hz q_ (.inl (.inr h_))
     ·exact hz q_ (.inr h_)
    exact⟨_,rfl,a3,_,rfl,⟨a0,m1,m2,m3,aa,_,ts9,ks9,hs9,rfl,H1.of hbS hlS aL hM1 hM2 hM3 ⟨bR,(hZG _ (Or.inl (Or.inr (Or.inl rfl)))),(hZG _ (Or.inl (Or.inr (Or.inr (Or.inl rfl))))),(hZG _ (Or.inl (Or.inr (Or.inr (Or.inr (Or.inl rfl)))))),(hZG _ (Or.inl (Or.inr (Or.inr (Or.inr (Or.inr rfl))))))⟩ H9.ne ⟨b1,bL,(fun e_=>bM _ e_ rfl),(fun e_=>bN _ e_ rfl),(fun e_=>bO _ e_ rfl)⟩ hrest hap2,⟨rfl,T9.c,T9.m,T9.h⟩⟩,hmv,K0⟩
 ·exact absurd ho ax.1
end
end Go.Proofs.YtjkaicjmfgekjaaGreatDoor
