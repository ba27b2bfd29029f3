/-
  Qj
-/
import Derived.Test.YtocgdeefgohdhaaGreatRows
import Derived.Test.YtocgdeefgohdhaaGreatPqQh
import Derived.Test.YtocgdeefgohdhaaGreatPqI
set_option linter.all false
set_option maxRecDepth 100000
set_option maxHeartbeats 4000000
namespace Go.Proofs.YtocgdeefgohdhaaGreat
open Go.Proofs.Tryz
attribute [local irreducible] RD RS AD RL RA RT BH Al
theorem nodup_le : ∀ {l m : List Int}, l.Nodup → (∀ x ∈ l, x ∈ m) → l.length ≤ m.length
  | [], m, _, _ => Nat.zero_le _
  | x :: l, m, h, hs => by
    have hx := hs x (List.mem_cons_self ..)
    have h2 := List.nodup_cons.1 h
    have ih := nodup_le (l := l) (m := m.erase x) h2.2 (fun y hy => (List.mem_erase_of_ne (fun e => h2.1 (by rw [← e]; exact hy))).2 (hs y (List.mem_cons_of_mem _ hy)))
    rw [List.length_erase_of_mem hx] at ih
    have := List.length_pos_of_mem hx
    rw [List.length_cons]; omega
def IV (Q:PM):Prop:=(Q.got.map MV.frm).Nodup∧∀v∈Q.got,∃t∈Q.targets,t.node=v.frm
abbrev Am (Q:PM)(v:MV):PM:=⟨Q.self,Q.req,Q.need,Q.began,Q.id,Q.key,Q.seen,Q.targets,Q.got++[v],Q.answered,Q.done,Q.made,Q.status,Q.put,Q.cart,Q.fine,Q.bad⟩
section
variable {Q :PM}{v:MV}{n:Int}
theorem Na (h:Dg Q n=true):∃t∈Q.targets,t.node=n:=by
 unfold Dg at h
 rw[Bool.and_eq_true,List.any_eq_true]at h
 obtain⟨⟨t,ht,he⟩,-⟩:=h
 exact⟨t,ht,of_decide_eq_true he⟩
theorem Nb (h:Dg Q n=true):n∉Q.got.map MV.frm:=fun hm=>by
 unfold Dg at h
 rw[Bool.and_eq_true,Bool.not_eq_true',List.any_eq_false]at h
 obtain⟨v,hv,rfl⟩:=List.mem_map.1 hm
 exact h.2 v hv (decide_eq_true rfl)
theorem IV.add (h:IV Q)(ho:Dg Q v.frm=true):IV (Am Q v):=by
 obtain⟨h1,h2⟩:=h
 refine⟨?_,fun x hx=> ?_⟩
 ·show((Q.got++[v]).map MV.frm).Nodup
  rw[List.map_append,List.nodup_append]
  refine⟨h1,by simp,fun a ha b hb e=> ?_⟩
  simp only[List.map_cons,List.map_nil,List.mem_singleton]at hb
  exact Nb ho (by rw[←hb,←e];exact ha)
 ·rcases List.mem_append.1 (show x∈Q.got++[v]from hx)with hx|hx
  ·exact h2 x hx
  ·rw[List.mem_singleton]at hx;rw[hx];obtain⟨t,ht,he⟩:=Na ho;exact⟨t,ht,he⟩
theorem IV.lt (h:IV Q)(ho:Dg Q n=true):Q.got.length<Q.targets.length:=by
 have:=nodup_le (l:=n::Q.got.map MV.frm) (m:=Q.targets.map Au.node) (List.nodup_cons.2 ⟨Nb ho,h.1⟩) (fun x hx=>by
  rcases List.mem_cons.1 hx with rfl|hx
  ·obtain⟨t,ht,rfl⟩:=Na ho;exact List.mem_map.2 ⟨t,ht,rfl⟩
  ·obtain⟨u,hu,rfl⟩:=List.mem_map.1 hx;obtain⟨t,ht,he⟩:=h.2 u hu;exact List.mem_map.2 ⟨t,ht,he⟩)
 simp only[List.length_cons,List.length_map]at this;omega
end
def Dy (Q:PM)(v:MV):Bool:=Q.made&& !Q.done&&decide (v.kind=if Q.put then 2 else 4)&&decide (v.req=Q.req)&&Dg Q v.frm
def Ht (Q1:PM)(s:Int):Int:=if Q1.answered=true then 0 else s
def FZ (Q1:PM)(s:Int):PM:=⟨Q1.self,Q1.req,Q1.need,Q1.began,Q1.id,Q1.key,Q1.seen,Q1.targets,Q1.got,Q1.answered||decide (s≠0),Q1.done||decide (Q1.got.length=Q1.targets.length),Q1.made,if Ht Q1 s=0 then Q1.status else s,Q1.put,Q1.cart,Q1.fine,Q1.bad⟩
theorem Iw {Q1:PM}{s:Int}{d:Bool}(h1:s≠0)(h2:Q1.answered=false)(hd:(Q1.done||decide (Q1.got.length=Q1.targets.length))=d):FZ Q1 s=⟨Q1.self,Q1.req,Q1.need,Q1.began,Q1.id,Q1.key,Q1.seen,Q1.targets,Q1.got,true,d,Q1.made,s,Q1.put,Q1.cart,Q1.fine,Q1.bad⟩∧Ht Q1 s=s:=by
 have e:Ht Q1 s=s:=by unfold Ht;rw[if_neg (by rw[h2];decide)]
 refine⟨?_,e⟩
 unfold FZ;rw[e,if_neg h1,decide_eq_true h1,Bool.or_true,hd]
theorem Jv {Q1:PM}{s:Int}{d:Bool}(h:¬(s≠0∧Q1.answered=false))(hd:(Q1.done||decide (Q1.got.length=Q1.targets.length))=d):FZ Q1 s=⟨Q1.self,Q1.req,Q1.need,Q1.began,Q1.id,Q1.key,Q1.seen,Q1.targets,Q1.got,Q1.answered,d,Q1.made,Q1.status,Q1.put,Q1.cart,Q1.fine,Q1.bad⟩∧Ht Q1 s=0:=by
 have e:Ht Q1 s=0:=by
  unfold Ht;split
  ·rfl
  ·rename_i ha;by_cases hs:s=0
   ·exact hs
   ·exact absurd ⟨hs,by simpa using ha⟩ h
 refine⟨?_,e⟩
 have e2:(Q1.answered||decide (s≠0))=Q1.answered:=by
  by_cases hs:s=0
  ·rw[hs];simp
  ·cases ha:Q1.answered with
   |true=>rfl
   |false=>exact absurd ⟨hs,ha⟩ h
 unfold FZ;rw[e,if_pos rfl,e2,hd]
def Ix (Q:PM)(v:MV):PM:=FZ (Am Q v) (Bg (Am Q v))
section
variable {w :World}{m:Nat}{M:Mq}{v:MV}{s:A6}{ga:Option Addr}{gc:Nat}{an dn:Bool}{st:Int}
abbrev IW (M:Mq)(ga:Option Addr)(gc:Nat)(v:MV)(s:A6)(an dn:Bool)(st:Int):Mq:=⟨M.self,M.req,M.need,M.began,M.id,M.knd,M.key,M.item,M.qty,M.price,M.seen,M.ss,M.ta,M.tc,M.targets,ga,gc,M.got++[(⟨v,s⟩:Mg)],an,dn,M.made,st,M.put,M.kb,M.cart,M.cs,M.fine,M.bad⟩
theorem PD (hd:M.done=dn):(IW M ga gc v s M.answered dn M.status).pv=Am M.pv v:=by
 subst hd
 show PM.mk _ _ _ _ _ _ _ _ ((M.got++[(⟨v,s⟩:Mg)]).map Mg.v) _ _ _ _ _ _ _ _=_
 rw[List.map_append];rfl
abbrev Mq.cellsK (k:TypeId)(M:Mq):List Value:=[.int .i64 M.self,.int .i64 M.req,.int .i64 M.need,.int .i64 M.began,.int .i64 M.id,.int .i64 M.knd,.string M.key,.string M.item,.int .i64 M.qty,.int .u64 M.price,.slice M.ss.ea M.seen.ent.length M.ss.ec,.slice M.ss.ma M.seen.mrk.length M.ss.mc,.slice M.ss.ca M.seen.cl.length M.ss.cc,.slice M.ta M.targets.length M.tc,.slice M.ga ((M.got.map Mg.c).length) M.gc,.bool M.answered,.bool M.done,.bool M.made,.int .i64 M.status,.iface k (jp M.kb)]
theorem EF {k:TypeId}(h:AI w m (M.cellsK k) 99)(e:kT M.put=k):AI w m M.cells 99:=by subst e;exact h
theorem Ma {k:TypeId}(h:AI w m M.cells 99)(e:kT M.put=k):AI w m (M.cellsK k) 99:=by subst e;exact h
theorem CO (hb:AI w m (M.cellsK 134) 99)(hput:M.put=true)(hk:AI w M.kb (c3 M.cart M.cs) 136)(hg:Ag w 48 M.ga M.gc (M.got.map Mg.c))(hr:Cs w M)(n1:m≠M.kb)(g1:¬own M.ga m)(g2:¬own M.ga M.kb)(r1:¬A4 M m)(r2:¬A4 M M.kb)(r3:∀q,A4 M q→¬own M.ga q):Cv w m M:=
 ⟨EF hb (by rw[hput]),fun _=>hk,(fun e=>by rw[hput]at e;cases e),hg,hr,n1,g1,g2,fun q hq=>⟨fun e=>r1 (e▸hq),fun e=>r2 (e▸hq),r3 q hq⟩⟩
theorem Hc {k:TypeId}(hb:AI w m ((IW M ga gc v s an dn st).cellsK k) 99)(hkT:kT M.put=k)(hk1:M.put=true→AI w M.kb (c3 M.cart M.cs) 136)(hk2:M.put=false→AI w M.kb (c3 M.cart M.cs++[.int .i64 M.fine,.bool M.bad]) 143)
  (hg:Ag w 48 ga gc ((M.got++[(⟨v,s⟩:Mg)]).map Mg.c)) (hr:Cs w M) (hc:AE w s v) (n1:m≠M.kb) (g1:¬own ga m) (g2:¬own ga M.kb) (r1:¬A4 M m) (r2:¬A4 M M.kb) (r3:∀q,A4 M q→¬own ga q)
  (c1:¬AP s v m) (c2:¬AP s v M.kb) (c3:∀q,AP s v q→¬own ga q):Cv w m (IW M ga gc v s an dn st) where
 blk:=EF hb hkT
 kput:=hk1
 kget:=hk2
 got:=hg
 rest:=⟨hr.tg,hr.seen,hr.cart,fun p hp=>(List.mem_append.1 hp).elim (hr.gots p) (fun h=>by rw[List.mem_singleton]at h;subst h;exact hc)⟩
 nk:=n1
 ng:=g1
 nkg:=g2
 nr:=by
  have hs:∀q,A4 (IW M ga gc v s an dn st) q→A4 M q∨AP s v q:=by
   rintro q (h|h|h|⟨p,hp,h⟩)
   ·exact .inl (.inl h)
   ·exact .inl (.inr (.inl h))
   ·exact .inl (.inr (.inr (.inl h)))
   ·rcases List.mem_append.1 hp with hp|hp
    ·exact .inl (.inr (.inr (.inr ⟨p,hp,h⟩)))
    ·rw[List.mem_singleton]at hp;subst hp;exact .inr h
  intro q hq
  rcases hs q hq with h|h
  ·exact⟨fun e=>r1 (e▸h),fun e=>r2 (e▸h),r3 q h⟩
  ·exact⟨fun e=>c1 (e▸h),fun e=>c2 (e▸h),c3 q h⟩
theorem Ga (h:M.put=true):kT M.put=134:=by rw[h]
theorem B4 (h:M.put=false):kT M.put=141:=by rw[h]
theorem DS (h:M.put=true):Dy M.pv v=true↔(M.made&& !M.done)=true∧v.kind=2∧v.req=M.req∧Dg M.pv v.frm=true:=by
 show(M.made&& !M.done&&decide (v.kind=if M.put then 2 else 4)&&decide (v.req=M.req)&&Dg M.pv v.frm)=true↔_
 rw[h]
 simp only[if_true,Bool.and_eq_true,decide_eq_true_eq,and_assoc]
theorem C4 (h:M.put=false):Dy M.pv v=true↔(M.made&& !M.done)=true∧v.kind=4∧v.req=M.req∧Dg M.pv v.frm=true:=by
 show(M.made&& !M.done&&decide (v.kind=if M.put then 2 else 4)&&decide (v.req=M.req)&&Dg M.pv v.frm)=true↔_
 rw[h]
 simp only[Bool.false_eq_true,if_false,Bool.and_eq_true,decide_eq_true_eq,and_assoc]
theorem Nc {S:Int}(h:S≠0):Hs (Am M.pv v) S=M.id:=by rw[Hs,if_neg h]
theorem Lg {S:Int}{a:Bool}(h:S≠0∧a=false):(decide (S≠0)&& !a)=true:=by simp[h.1,h.2]
theorem Lh {S:Int}{a:Bool}(h:¬(S≠0∧a=false)):(decide (S≠0)&& !a)=false:=by
 cases a with
 |true=>simp
 |false=>simp only[and_true,Decidable.not_not,ne_eq]at h;simp[h]
theorem Li {S:Int}{d:Bool}(h1:S≠0)(h2:M.answered=false)(hd:(M.done||decide ((M.got.map Mg.v++[v]).length=M.targets.length))=d):(IW M ga gc v s true d S).pv=FZ (Am M.pv v) S∧Ht (Am M.pv v) S=S:=by
 obtain⟨e1,e2⟩:=Iw (Q1:=Am M.pv v) h1 h2 hd
 refine⟨?_,e2⟩
 rw[e1]
 show PM.mk _ _ _ _ _ _ _ _ ((M.got++[(⟨v,s⟩:Mg)]).map Mg.v) _ _ _ _ _ _ _ _=_
 rw[List.map_append];rfl
theorem Nd {S:Int}{d:Bool}(h:¬(S≠0∧M.answered=false))(hd:(M.done||decide ((M.got.map Mg.v++[v]).length=M.targets.length))=d):(IW M ga gc v s M.answered d M.status).pv=FZ (Am M.pv v) S∧Ht (Am M.pv v) S=0:=by
 obtain⟨e1,e2⟩:=Jv (Q1:=Am M.pv v) h hd
 refine⟨?_,e2⟩
 rw[e1]
 show PM.mk _ _ _ _ _ _ _ _ ((M.got++[(⟨v,s⟩:Mg)]).map Mg.v) _ _ _ _ _ _ _ _=_
 rw[List.map_append];rfl
theorem Gb (h:Ds M)(hl:M.got.length<M.targets.length)(hc:AV v s):Ds (IW M ga gc v s an dn st):=
 ⟨h.need,h.tc,h.tl,by show(M.got++[(⟨v,s⟩:Mg)]).length≤M.targets.length;rw[List.length_append];exact hl,h.seen,h.cart,fun p hp=>(List.mem_append.1 hp).elim (h.gots p) (fun h2=>by rw[List.mem_singleton]at h2;subst h2;exact hc),⟨h.fine.1,by have:=h.fine.2;show M.fine≤((M.got++[(⟨v,s⟩:Mg)]).length:Int);rw[List.length_append];omega⟩,h.began⟩
theorem Hu (P:Nat→Prop)(h1:P m)(h2:P M.kb)(h3:∀q,own ga q→P q)(h4:∀q,A4 M q→P q)(h5:∀q,AP s v q→P q):∀q,Dx m (IW M ga gc v s an dn st) q→P q:=by
 rintro q (h|h|h|h|h|h|⟨p,hp,h⟩)
 ·exact h▸h1
 ·exact h▸h2
 ·exact h3 q h
 ·exact h4 q (.inl h)
 ·exact h4 q (.inr (.inl h))
 ·exact h4 q (.inr (.inr (.inl h)))
 ·rcases List.mem_append.1 hp with hp|hp
  ·exact h4 q (.inr (.inr (.inr ⟨p,hp,h⟩)))
  ·rw[List.mem_singleton]at hp;subst hp;exact h5 q h
end
def Gc (w0 w:World)(F:Nat→Prop)(id s:Int)(v:MV)(r:Value):Prop:=(s=0∧r= .slice none 0 0)∨(s≠0∧∃a c t,r= .slice a [(⟨id,s,(An v t).cart⟩:AM)].length c∧Ag w 63 a c [(⟨id,s,(An v t).cart⟩:AM)]∧BF w t v∧CN t∧(∀q,own a q→w0.heap.size≤q)∧(∀q,Aw t q→w0.heap.size≤q)∧(∀q,Aw t q→¬own a q)∧(∀q,F q→¬own a q)∧(∀q,F q→¬Aw t q))
theorem QO (m:Nat)(M:Mq)(Q:PM)(C:MV)(w:World)(hQ:M.pv=Q)(hC:M.cart=C)(hM:Cv w m M)(hok:Ds M)(hput:M.put=true):Calls prog 150 #[jp M.kb,jp m] w (AU (fun r w'=>∃s',r= .tuple #[.agg #[.int .i64 (Hs Q (Bg Q)),.int .i64 (Bg Q),.slice (((An (AK C (Bg Q)) s').cart).entries.a) (((An (AK C (Bg Q)) s').cart).entries.len) (((An (AK C (Bg Q)) s').cart).entries.cap),.slice ((((An (AK C (Bg Q)) s').cart).ctx).marks.a) ((((An (AK C (Bg Q)) s').cart).ctx).marks.len) ((((An (AK C (Bg Q)) s').cart).ctx).marks.cap),.slice ((((An (AK C (Bg Q)) s').cart).ctx).cloud.a) ((((An (AK C (Bg Q)) s').cart).ctx).cloud.len) ((((An (AK C (Bg Q)) s').cart).ctx).cloud.cap)],.bool (decide ((Bg Q)≠0))]∧BF w' s' (AK C (Bg Q))∧CN s'∧(∀q,Aw s' q→w.heap.size≤q)∧As w w')):=by subst hQ;subst hC;exact QN m M w hM hok hput
attribute [local irreducible] X
theorem Ti (m:Nat)(M:Mq)(v:MV)(s:A6)(w:World)(hM:Cv w m M)(hok:Ds M)(hput:M.put=true)(hP:IV M.pv)(hR:Dj w s v)(hv:Fl v)(hE:EE v.ent)(hcap:v.ent.length≤s.ec):
  Calls prog 11 #[jp m,.agg #[.int .i64 ((An v s).kind),.int .i64 ((An v s).frm),.int .i64 ((An v s).to),.int .i64 ((An v s).req),.string ((An v s).key),.slice s.ea v.ent.length s.ec,.slice s.ma v.mrk.length s.mc,.slice s.ca v.cl.length s.cc,.int .i64 ((An v s).owner),.int .i64 ((An v s).part),.int .i64 ((An v s).n),.int .i64 (((An v s).ring).parts),.int .i64 (((An v s).ring).copies),.int .i64 (((An v s).ring).spots),.slice s.ba v.mem.length s.bc,.slice s.pa v.pe.length s.pc,.slice s.sa v.su.length s.sc]] w (AU (fun r w'=>∃F' t0,r= .tuple #[.slice none 0 0,t0]∧((Dy M.pv v=false∧B3 w' m F' M.pv∧t0= .slice none 0 0)∨(Dy M.pv v=true∧B3 w' m F' (Ix M.pv v)∧Gc w w' F' M.id (Ht (Am M.pv v) (Bg (Am M.pv v))) (AK M.cart (Bg (Am M.pv v))) t0))∧(∀q,F' q→Dx m M q∨w.heap.size≤q)∧Ao (Dx m M) w w')):=by
 have hM0:=hM;have hok0:=hok;obtain⟨hb,hkp,hkg,hgt,hr,hnk,hng,hnkg,hnr⟩:=hM;obtain⟨⟨hnd1,hnd2⟩,htc,htl,hgl,hsok,hcok,hgok,hfine,hbeg⟩:=hok;have hgm:(M.got.map Mg.c).length=M.got.length:=List.length_map ..;have hk:=hkp hput;replace hb:=Ma hb (Ga hput);have hrb:¬A4 M m:=fun h_=>(hnr m h_).1 rfl;have hrk:¬A4 M M.kb:=fun h_=>(hnr _ h_).2.1 rfl;have hrg:∀q,A4 M q→¬own M.ga q:=fun q h_=>(hnr q h_).2.2;refine Af (n:=109) func11 rfl rfl rfl ?_;refine jG ?_;refine jR<|jB ?_;intro bn bA an a1 aN;have bB:=Aj hb.lt an;have bC:=Aj hk.lt an;have b4:=Ak hgt.own_lt an;have bo:=Ak hr.own_lt an;have bp:=Ak hR.own_lt an;have:w.heap.size≤bn:=an;clear an;have K0:=(aN:As w _).to (S:=(Dx m M));refine CU ?_;replace hb:=hb.ext aN;replace hk:=hk.ext aN;replace hgt:=hgt.ext aN;replace hr:=hr.ext aN;replace hR:=hR.ext aN;by_cases hlv:(M.made&& !M.done)=true
 ·by_cases hkd:v.kind=2
  ·by_cases hrq:v.req=M.req
   ·by_cases hop:Dg M.pv v.frm=true
    ·refine Al.drawS [] [0,2001,2,3,4,5,6,1007,1008,2009,10,11,12,13,1014,15,16,17,1018,19,20,21,22,23,1024,2025,26,27] ?_
     intro bD ao;replace hb:=hb.ext ao;replace a1:=a1.ext ao;refine jM (jb hb (jb a1 Jn)) ?_;refine jG ?_;replace hk:=hk.ext ao;replace hgt:=hgt.ext ao;replace hr:=hr.ext ao;refine jU rfl<|jC (DQ m M _ (CO hb hput hk hgt hr hnk hng hnkg hrb hrk hrg) hok0) ?_;rintro _ bE ⟨rfl,ap⟩;replace hb:=hb.ext ap;replace a1:=a1.ext ap;refine BP ?_;refine jP ?_ (hx:=by exact fun _=>(AR (AS rfl) (by simp[hlv])));refine jG ?_;refine jX rfl<|AD.callI (vals:=[jp M.kb,.agg #[.int .i64 ((An v s).kind),.int .i64 ((An v s).frm),.int .i64 ((An v s).to),.int .i64 ((An v s).req),.string ((An v s).key),.slice s.ea v.ent.length s.ec,.slice s.ma v.mrk.length s.mc,.slice s.ca v.cl.length s.cc,.int .i64 ((An v s).owner),.int .i64 ((An v s).part),.int .i64 ((An v s).n),.int .i64 (((An v s).ring).parts),.int .i64 (((An v s).ring).copies),.int .i64 (((An v s).ring).spots),.slice s.ba v.mem.length s.bc,.slice s.pa v.pe.length s.pc,.slice s.sa v.su.length s.sc]]) (fun w=>by kernel_rfl) en152.h rfl rfl (HO (some ⟨M.kb,0,none⟩) v s _) ?_;rintro _ bF ⟨rfl,aq⟩;replace hb:=hb.ext aq;replace a1:=a1.ext aq;refine BP ?_;refine jQ ?_ (hx:=by exact fun _ hg=>(AR (AS rfl) (by simp[hkd])));refine jP ?_ (hx:=by exact fun _=>(Bi rfl rfl rfl));refine EB ?_;refine CU ?_;refine Cc ?_;refine jQ ?_ (hx:=by exact fun _ hg=>(AR (Co rfl rfl) (by simp[hrq])));refine jP ?_ (hx:=by exact fun _=>(Bi rfl rfl rfl));refine jG ?_;replace hk:=(hk.ext ap).ext aq;replace hgt:=(hgt.ext ap).ext aq;replace hr:=(hr.ext ap).ext aq;refine jX rfl<|jC (M5 m M v.frm _ (CO hb hput hk hgt hr hnk hng hnkg hrb hrk hrg) hok0) ?_;rintro _ bG ⟨rfl,ar⟩;replace hb:=hb.ext ar;replace a1:=a1.ext ar;refine BP ?_;refine jQ ?_ (hx:=by exact fun _ hg=>(AR (AS rfl) (by simp[hop])));refine jP ?_ (hx:=by exact fun _=>(Bi rfl rfl rfl));refine jG ?_;refine Al.condF rfl ?_;refine jG ?_;replace hR:=(((hR.ext ao).ext ap).ext aq).ext ar;refine jR<|jC (DP v s _ hR.cart Za) ?_;rintro _ bH ⟨a0,rfl,a2,bI,aO,au⟩;have a8:=Ae aO hb.lt;replace hk:=hk.ext ar;have aW:=Ae aO hk.lt;replace hgt:=hgt.ext ar;have b5:=Ab aO hgt.own_lt;have bq:=Ae aO a1.lt;replace K0:=(((K0.ext ao).ext ap).ext aq).ext ar;have b1:=Az K0.size aO;clear aO;refine jG ?_;replace a1:=a1.ext au;refine jR<|jS a1 ?_;intro bJ a1 av;replace K0:=K0.ext au;replace K0:=K0.n1 av;have hlt:M.got.length<M.targets.length:=by have h_:=hP.lt hop;simpa using h_
     refine jG ?_;refine Al.drawS [10] [0,1,2,3,1004,1005,2006,2007,8,9,2010] ?_;intro bK aw;replace hb:=((hb.ext au).kp av).ext aw;replace a1:=a1.ext aw;refine jM (jb hb (jb a1 Jn)) ?_;refine jG ?_;refine jU rfl<|AD.buildSlice ([(An v (⟨a0.ea,a0.ec,a0.ma,a0.mc,a0.ca,a0.cc,s.ba,s.bc,s.pa,s.pc,s.sa,s.sc⟩:A6))]:List Cd) underlying57 ty48 rfl rfl Ze ?_;intro bL bM bs bt ax;clear bs;replace hb:=hb.ext ax;replace a1:=a1.ext ax;refine jG ?_;replace hgt:=(((hgt.ext au).keepO av (Aa b4)).ext aw).ext ax;refine jU rfl<|AD.append (xs:=M.got.map Mg.c) (ys:=([(An v (⟨a0.ea,a0.ec,a0.ma,a0.mc,a0.ca,a0.cc,s.ba,s.bc,s.pa,s.pc,s.sa,s.sc⟩:A6))]:List Cd)) underlying57 ty48 rfl rfl rfl hgt bt.sl Zr Zd ?_;intro a5 a7 bN a3 aP aQ bu;have a9:¬own a5 m:=aQ.not hng hb.lt;replace hk:=(((hk.ext au).kp av).ext aw).ext ax;have aX:¬own a5 M.kb:=aQ.not hnkg hk.lt;replace hr:=((((hr.ext ar).ext au).keepO av (Aa bo)).ext aw).ext ax;have aY:∀q_,own a5 q_→¬A4 M q_:=aQ.apart (Zf hrg) hr.own_lt;replace a2:=((a2.keepO av (Aa bq)).ext aw).ext ax;have aZ:∀q_,own a5 q_→¬Aw a0 q_:=aQ.apart (Zf b5) a2.own_lt;replace K0:=(K0.ext aw).ext ax;have b2:∀q_,own a5 q_→q_<w.heap.size→(Dx m M) q_:=aQ.inS (fun q_ h_ _=>Or.inr (Or.inr (Or.inl h_))) K0.size;replace K0:=K0.trans aP (fun x hlt hx=>(fun q_ h_ _=>Or.inr (Or.inr (Or.inl h_))) x hx hlt);clear aQ;clear bu;replace hb:=hb.keep aP hng;replace a1:=a1.keep aP b4;refine jG ?_;refine jU rfl<|jS hb ?_;intro bO hb aR;replace K0:=K0.tf aR (Or.inl rfl);have hgx:(M.got.map Mg.c)++([(An v (⟨a0.ea,a0.ec,a0.ma,a0.mc,a0.ca,a0.cc,s.ba,s.bc,s.pa,s.pc,s.sa,s.sc⟩:A6))]:List Cd)=(M.got++[(⟨v,(⟨a0.ea,a0.ec,a0.ma,a0.mc,a0.ca,a0.cc,s.ba,s.bc,s.pa,s.pc,s.sa,s.sc⟩:A6)⟩:Mg)]).map Mg.c:=by rw[List.map_append];rfl
     replace a3:=a3.keepO aR (Aa a9);rw[hgx]at a3;rw[hgx]at hb;have hdf:M.done=false:=by rw[Bool.and_eq_true]at hlv;simpa using hlv.2
     refine jG ?_;refine jV (Hl rfl) ?_;refine jV (EM (a:=[.iface 134 (jp M.kb)]) (c:=[]) rfl rfl) ?_;refine jV (Bl (v:= .func (.method "trolley/quorum.heard") #[.iface 134 (jp M.kb)] #[]) rfl) ?_;refine BP ?_;refine jV (BV (v:= .func (.method "trolley/quorum.heard") #[.iface 134 (jp M.kb)] #[]) rfl) ?_;refine jG ?_;replace hk:=(hk.keep aP hnkg).kp aR;replace hr:=(hr.keepO aP hrg).keepO aR (Aa hrb);replace a2:=(a2.keepO aP b5).keepO aR (Aa a8);refine jR<|AD.callM (vals:=[jp M.kb,jp m]) (fun w=>by kernel_rfl) en150.h rfl rfl (QO m (IW M a5 a7 v (⟨a0.ea,a0.ec,a0.ma,a0.mc,a0.ca,a0.cc,s.ba,s.bc,s.pa,s.pc,s.sa,s.sc⟩:A6) M.answered M.done M.status) (Am M.pv v) M.cart _ (PD rfl) rfl (Hc hb (Ga hput) (fun _=>hk) (fun e_=>by rw[hput]at e_;cases e_) a3 hr ⟨a2.r.ent,a2.r.mrk,a2.r.cl⟩ hnk a9 aX hrb hrk (Zf aY) (fun h_=>a8 (cart_d m h_)) (fun h_=>aW (cart_d M.kb h_)) (fun q_ h_=>(Zf aZ) q_ (cart_d q_ h_))) (Gb hok0 hlt ⟨hv,hE,a2.ent.le_cap⟩) hput) ?_;rintro _ bP ⟨a4,rfl,a6,b6,ay,az⟩;have b0:=Ae ay hb.lt;have b7:=Ae ay hk.lt;have b8:=Ab ay hr.own_lt;have b9:=Ab ay a2.own_lt;have bb:=Ab ay a3.own_lt;have be:=Az K0.size ay;clear ay;refine jG ?_;refine jR<|jA ?_;intro bQ bR ab aa ag;replace hb:=hb.ext az;have bS:=Aj hb.lt ab;replace hk:=hk.ext az;have bT:=Aj hk.lt ab;replace a1:=(a1.kp aR).ext az;have bU:=Aj a1.lt ab;replace hr:=hr.ext az;have bv:=Ak hr.own_lt ab;replace a2:=a2.ext az;have bw:=Ak a2.own_lt ab;replace a3:=a3.ext az;have bx:=Ak a3.own_lt ab;have bz:=Ak a6.own_lt ab;replace K0:=K0.ext az;have:=Nat.le_trans K0.size ab;clear ab;refine jR<|jS aa ?_;intro bV aa ah;replace K0:=K0.ext ag;replace K0:=K0.n1 ah;refine Cc ?_;replace hR:=(hR.ext au).keepO av (Aa bp);replace hb:=(hb.ext ag).kp ah;replace hk:=(hk.ext ag).kp ah;replace hr:=(hr.ext ag).keepO ah (Aa bv);replace a1:=(a1.ext ag).kp ah;replace a2:=(a2.ext ag).keepO ah (Aa bw);replace a3:=(a3.ext ag).keepO ah (Aa bx);replace a6:=(a6.ext ag).keepO ah (Aa bz);by_cases htl:(Bg (Am M.pv v))≠0∧M.answered=false
     ·refine jG ?_
      refine jV (A3 (AN rfl rfl rfl) (Lg htl)) ?_;refine jG ?_;refine CE ?_;refine jG ?_;refine Al.drawS [9] [0,1,2,1003,4,5,2006,7,8,2009] ?_;intro bW ac;replace aa:=aa.ext ac;refine jM (jb aa Jn) ?_;refine jG ?_;replace hb:=hb.ext ac;refine jU rfl<|jS hb ?_;intro bX hb ai;replace K0:=K0.ext ac;replace K0:=K0.tf ai (Or.inl rfl);replace aa:=aa.kp ai;refine jG ?_;refine jU rfl<|jS hb ?_;intro bY hb aj;replace K0:=K0.tf aj (Or.inl rfl);refine BP ?_;replace aa:=aa.kp aj;refine jV (Gn (v':= .agg #[.int .i64 M.id,.int .i64 (Bg (Am M.pv v)),.slice (((An (AK M.cart (Bg (Am M.pv v))) a4).cart).entries.a) (((An (AK M.cart (Bg (Am M.pv v))) a4).cart).entries.len) (((An (AK M.cart (Bg (Am M.pv v))) a4).cart).entries.cap),.slice ((((An (AK M.cart (Bg (Am M.pv v))) a4).cart).ctx).marks.a) ((((An (AK M.cart (Bg (Am M.pv v))) a4).cart).ctx).marks.len) ((((An (AK M.cart (Bg (Am M.pv v))) a4).cart).ctx).marks.cap),.slice ((((An (AK M.cart (Bg (Am M.pv v))) a4).cart).ctx).cloud.a) ((((An (AK M.cart (Bg (Am M.pv v))) a4).cart).ctx).cloud.len) ((((An (AK M.cart (Bg (Am M.pv v))) a4).cart).ctx).cloud.cap)]) (Fu (cs:=#[.int .i64 (Hs (Am M.pv v) (Bg (Am M.pv v))),.int .i64 (Bg (Am M.pv v)),.slice (((An (AK M.cart (Bg (Am M.pv v))) a4).cart).entries.a) (((An (AK M.cart (Bg (Am M.pv v))) a4).cart).entries.len) (((An (AK M.cart (Bg (Am M.pv v))) a4).cart).entries.cap),.slice ((((An (AK M.cart (Bg (Am M.pv v))) a4).cart).ctx).marks.a) ((((An (AK M.cart (Bg (Am M.pv v))) a4).cart).ctx).marks.len) ((((An (AK M.cart (Bg (Am M.pv v))) a4).cart).ctx).marks.cap),.slice ((((An (AK M.cart (Bg (Am M.pv v))) a4).cart).ctx).cloud.a) ((((An (AK M.cart (Bg (Am M.pv v))) a4).cart).ctx).cloud.len) ((((An (AK M.cart (Bg (Am M.pv v))) a4).cart).ctx).cloud.cap)]) ty63 rfl rfl (aa.cl.drop 0 5)) (by rw[Nc htl.1])) ?_;refine jR<|AD.buildSlice ([(⟨M.id,(Bg (Am M.pv v)),(An (AK M.cart (Bg (Am M.pv v))) a4).cart⟩:AM)]:List AM) underlying58 ty63 rfl rfl Ze ?_;intro bg bZ ak aS al;have b3:=Ae (Av ak) hb.lt;replace hk:=((hk.ext ac).kp ai).kp aj;have bh:=Ae (Av ak) hk.lt;replace hr:=((hr.ext ac).keepO ai (Aa hrb)).keepO aj (Aa hrb);have bi:=Ab (Av ak) hr.own_lt;replace a2:=((a2.ext ac).keepO ai (Aa a8)).keepO aj (Aa a8);have bj:=Ab (Av ak) a2.own_lt;replace a3:=((a3.ext ac).keepO ai (Aa a9)).keepO aj (Aa a9);have bk:=Ab (Av ak) a3.own_lt;replace a6:=((a6.ext ac).keepO ai (Aa b0)).keepO aj (Aa b0);have bl:=Ab (Av ak) a6.own_lt;have bm:=Az K0.size (Av ak);clear ak;refine Cc ?_;replace a1:=(((a1.ext ac).kp ai).kp aj).ext al;replace hb:=hb.ext al;replace hk:=hk.ext al;replace hr:=hr.ext al;replace a2:=a2.ext al;replace a3:=a3.ext al;replace a6:=a6.ext al;replace K0:=K0.ext al;by_cases hdn:M.got.length+1=M.targets.length
      ·refine Al.drawR ?_
       intro c0 ad;replace hb:=hb.ext ad;refine F6 ?_;refine CU ?_;refine jD (A3 (BQ rfl rfl) Zg) ?_;refine jG ?_;refine CE ?_;refine jG ?_;refine jR<|jS hb ?_;intro c1 hb am;replace K0:=K0.ext ad;replace K0:=K0.tf am (Or.inl rfl);refine EB ?_;refine jV (AS (b:=true) rfl) ?_;refine jG ?_;refine Al.condF rfl ?_;refine jG ?_;refine jR<|AD.callI (vals:=[jp M.kb,jp m]) (fun w=>by kernel_rfl) en151.h rfl rfl (L3 (some ⟨M.kb,0,none⟩) m _) ?_;rintro _ c2 ⟨rfl,ae⟩;refine jG ?_;refine jK func11 ?_;have e:=Li (M:=M) (ga:=a5) (gc:=a7) (v:=v) (s:=(⟨a0.ea,a0.ec,a0.ma,a0.mc,a0.ca,a0.cc,s.ba,s.bc,s.pa,s.pc,s.sa,s.sc⟩:A6)) (S:=(Bg (Am M.pv v))) (d:=true) htl.1 htl.2 (by rw[hdf,Bool.false_or];simp only[List.length_append,List.length_map,List.length_cons,List.length_nil];exact decide_eq_true hdn);replace hk:=((hk.ext ad).kp am).ext ae;replace hr:=((hr.ext ad).keepO am (Aa hrb)).ext ae;replace a2:=((a2.ext ad).keepO am (Aa a8)).ext ae;replace a3:=((a3.ext ad).keepO am (Aa a9)).ext ae;replace hb:=hb.ext ae;replace K0:=K0.ext ae;refine⟨_,rfl,Dx m (IW M a5 a7 v (⟨a0.ea,a0.ec,a0.ma,a0.mc,a0.ca,a0.cc,s.ba,s.bc,s.pa,s.pc,s.sa,s.sc⟩:A6) true true (Bg (Am M.pv v))),_,rfl,.inr ⟨(DS hput).2 ⟨hlv,hkd,hrq,hop⟩,⟨(IW M a5 a7 v (⟨a0.ea,a0.ec,a0.ma,a0.mc,a0.ca,a0.cc,s.ba,s.bc,s.pa,s.pc,s.sa,s.sc⟩:A6) true true (Bg (Am M.pv v))),rfl,e.1.symm,(Hc hb (Ga hput) (fun _=>hk) (fun e_=>by rw[hput]at e_;cases e_) a3 hr ⟨a2.r.ent,a2.r.mrk,a2.r.cl⟩ hnk a9 aX hrb hrk (Zf aY) (fun h_=>a8 (cart_d m h_)) (fun h_=>aW (cart_d M.kb h_)) (fun q_ h_=>(Zf aZ) q_ (cart_d q_ h_))),(Gb hok0 hlt ⟨hv,hE,a2.ent.le_cap⟩)⟩,?_⟩,(Hu (P:=fun q_=>Dx m M q_∨w.heap.size≤q_) (.inl (.inl rfl)) (.inl (.inr (.inl rfl))) (fun q_ h_=>(Nat.lt_or_ge q_ w.heap.size).elim (fun l_=> .inl (b2 q_ h_ l_)) .inr) (fun q_ h_=> .inl (.inr (.inr (.inr h_)))) (fun q_ h_=>(fun q_ h_=>Or.inr (b1 q_ h_)) q_ (cart_d q_ h_))),K0⟩;rw[e.2];replace a1:=((a1.ext ad).kp am).ext ae;replace a6:=((a6.ext ad).keepO am (Aa b0)).ext ae;replace aS:=((aS.ext ad).keepO am (Aa b3)).ext ae;exact .inr ⟨htl.1,_,_,a4,rfl,aS,a6,b6,bm,be,(Zf bl),(Hu (P:=fun q_=>¬own (some ⟨bg,0,none⟩) q_) b3 bh (Zf bk) (Zf bi) (fun q_ h_=>(Zf bj) q_ (cart_d q_ h_))),(Hu (P:=fun q_=>¬Aw a4 q_) b0 b7 (Zf bb) (Zf b8) (fun q_ h_=>(Zf b9) q_ (cart_d q_ h_)))⟩
      ·refine Al.drawR ?_
       intro c4 af;replace hb:=hb.ext af;refine F6 ?_;refine CU ?_;refine jD (AR (BQ rfl rfl) Zg) ?_;refine jG ?_;refine Al.condF rfl ?_;refine EB ?_;refine jV (A3 (AS rfl) (by simp[hdf])) ?_;refine jG ?_;refine CE ?_;refine jG ?_;refine jK func11 ?_;have e:=Li (M:=M) (ga:=a5) (gc:=a7) (v:=v) (s:=(⟨a0.ea,a0.ec,a0.ma,a0.mc,a0.ca,a0.cc,s.ba,s.bc,s.pa,s.pc,s.sa,s.sc⟩:A6)) (S:=(Bg (Am M.pv v))) (d:=M.done) htl.1 htl.2 (by rw[hdf,Bool.false_or];simp only[List.length_append,List.length_map,List.length_cons,List.length_nil];exact decide_eq_false hdn);replace hk:=hk.ext af;replace hr:=hr.ext af;replace a2:=a2.ext af;replace a3:=a3.ext af;replace K0:=K0.ext af;refine⟨_,rfl,Dx m (IW M a5 a7 v (⟨a0.ea,a0.ec,a0.ma,a0.mc,a0.ca,a0.cc,s.ba,s.bc,s.pa,s.pc,s.sa,s.sc⟩:A6) true M.done (Bg (Am M.pv v))),_,rfl,.inr ⟨(DS hput).2 ⟨hlv,hkd,hrq,hop⟩,⟨(IW M a5 a7 v (⟨a0.ea,a0.ec,a0.ma,a0.mc,a0.ca,a0.cc,s.ba,s.bc,s.pa,s.pc,s.sa,s.sc⟩:A6) true M.done (Bg (Am M.pv v))),rfl,e.1.symm,(Hc hb (Ga hput) (fun _=>hk) (fun e_=>by rw[hput]at e_;cases e_) a3 hr ⟨a2.r.ent,a2.r.mrk,a2.r.cl⟩ hnk a9 aX hrb hrk (Zf aY) (fun h_=>a8 (cart_d m h_)) (fun h_=>aW (cart_d M.kb h_)) (fun q_ h_=>(Zf aZ) q_ (cart_d q_ h_))),(Gb hok0 hlt ⟨hv,hE,a2.ent.le_cap⟩)⟩,?_⟩,(Hu (P:=fun q_=>Dx m M q_∨w.heap.size≤q_) (.inl (.inl rfl)) (.inl (.inr (.inl rfl))) (fun q_ h_=>(Nat.lt_or_ge q_ w.heap.size).elim (fun l_=> .inl (b2 q_ h_ l_)) .inr) (fun q_ h_=> .inl (.inr (.inr (.inr h_)))) (fun q_ h_=>(fun q_ h_=>Or.inr (b1 q_ h_)) q_ (cart_d q_ h_))),K0⟩;rw[e.2];replace a1:=a1.ext af;replace a6:=a6.ext af;replace aS:=aS.ext af;exact .inr ⟨htl.1,_,_,a4,rfl,aS,a6,b6,bm,be,(Zf bl),(Hu (P:=fun q_=>¬own (some ⟨bg,0,none⟩) q_) b3 bh (Zf bk) (Zf bi) (fun q_ h_=>(Zf bj) q_ (cart_d q_ h_))),(Hu (P:=fun q_=>¬Aw a4 q_) b0 b7 (Zf bb) (Zf b8) (fun q_ h_=>(Zf b9) q_ (cart_d q_ h_)))⟩
     ·refine jG ?_
      refine jV (AR (AN rfl rfl rfl) (Lh htl)) ?_;refine jG ?_;refine Al.condF rfl ?_;refine BP ?_;by_cases hdn:M.got.length+1=M.targets.length
      ·refine Al.drawR ?_
       intro c5 aA;replace hb:=hb.ext aA;refine F6 ?_;refine CU ?_;refine jD (A3 (BQ rfl rfl) Zg) ?_;refine jG ?_;refine CE ?_;refine jG ?_;refine jR<|jS hb ?_;intro c6 hb aT;replace K0:=K0.ext aA;replace K0:=K0.tf aT (Or.inl rfl);refine EB ?_;refine jV (AS (b:=true) rfl) ?_;refine jG ?_;refine Al.condF rfl ?_;refine jG ?_;refine jR<|AD.callI (vals:=[jp M.kb,jp m]) (fun w=>by kernel_rfl) en151.h rfl rfl (L3 (some ⟨M.kb,0,none⟩) m _) ?_;rintro _ c7 ⟨rfl,aB⟩;refine jG ?_;refine jK func11 ?_;have e:=Nd (M:=M) (ga:=a5) (gc:=a7) (v:=v) (s:=(⟨a0.ea,a0.ec,a0.ma,a0.mc,a0.ca,a0.cc,s.ba,s.bc,s.pa,s.pc,s.sa,s.sc⟩:A6)) (S:=(Bg (Am M.pv v))) (d:=true) htl (by rw[hdf,Bool.false_or];simp only[List.length_append,List.length_map,List.length_cons,List.length_nil];exact decide_eq_true hdn);replace hk:=((hk.ext aA).kp aT).ext aB;replace hr:=((hr.ext aA).keepO aT (Aa hrb)).ext aB;replace a2:=((a2.ext aA).keepO aT (Aa a8)).ext aB;replace a3:=((a3.ext aA).keepO aT (Aa a9)).ext aB;replace hb:=hb.ext aB;replace K0:=K0.ext aB;refine⟨_,rfl,Dx m (IW M a5 a7 v (⟨a0.ea,a0.ec,a0.ma,a0.mc,a0.ca,a0.cc,s.ba,s.bc,s.pa,s.pc,s.sa,s.sc⟩:A6) M.answered true M.status),_,rfl,.inr ⟨(DS hput).2 ⟨hlv,hkd,hrq,hop⟩,⟨(IW M a5 a7 v (⟨a0.ea,a0.ec,a0.ma,a0.mc,a0.ca,a0.cc,s.ba,s.bc,s.pa,s.pc,s.sa,s.sc⟩:A6) M.answered true M.status),rfl,e.1.symm,(Hc hb (Ga hput) (fun _=>hk) (fun e_=>by rw[hput]at e_;cases e_) a3 hr ⟨a2.r.ent,a2.r.mrk,a2.r.cl⟩ hnk a9 aX hrb hrk (Zf aY) (fun h_=>a8 (cart_d m h_)) (fun h_=>aW (cart_d M.kb h_)) (fun q_ h_=>(Zf aZ) q_ (cart_d q_ h_))),(Gb hok0 hlt ⟨hv,hE,a2.ent.le_cap⟩)⟩,?_⟩,(Hu (P:=fun q_=>Dx m M q_∨w.heap.size≤q_) (.inl (.inl rfl)) (.inl (.inr (.inl rfl))) (fun q_ h_=>(Nat.lt_or_ge q_ w.heap.size).elim (fun l_=> .inl (b2 q_ h_ l_)) .inr) (fun q_ h_=> .inl (.inr (.inr (.inr h_)))) (fun q_ h_=>(fun q_ h_=>Or.inr (b1 q_ h_)) q_ (cart_d q_ h_))),K0⟩;rw[e.2];replace a1:=((a1.ext aA).kp aT).ext aB;exact .inl ⟨rfl,rfl⟩
      ·refine Al.drawR ?_
       intro c8 aC;replace hb:=hb.ext aC;refine F6 ?_;refine CU ?_;refine jD (AR (BQ rfl rfl) Zg) ?_;refine jG ?_;refine Al.condF rfl ?_;refine EB ?_;refine jV (A3 (AS rfl) (by simp[hdf])) ?_;refine jG ?_;refine CE ?_;refine jG ?_;refine jK func11 ?_;have e:=Nd (M:=M) (ga:=a5) (gc:=a7) (v:=v) (s:=(⟨a0.ea,a0.ec,a0.ma,a0.mc,a0.ca,a0.cc,s.ba,s.bc,s.pa,s.pc,s.sa,s.sc⟩:A6)) (S:=(Bg (Am M.pv v))) (d:=M.done) htl (by rw[hdf,Bool.false_or];simp only[List.length_append,List.length_map,List.length_cons,List.length_nil];exact decide_eq_false hdn);replace hk:=hk.ext aC;replace hr:=hr.ext aC;replace a2:=a2.ext aC;replace a3:=a3.ext aC;replace K0:=K0.ext aC;refine⟨_,rfl,Dx m (IW M a5 a7 v (⟨a0.ea,a0.ec,a0.ma,a0.mc,a0.ca,a0.cc,s.ba,s.bc,s.pa,s.pc,s.sa,s.sc⟩:A6) M.answered M.done M.status),_,rfl,.inr ⟨(DS hput).2 ⟨hlv,hkd,hrq,hop⟩,⟨(IW M a5 a7 v (⟨a0.ea,a0.ec,a0.ma,a0.mc,a0.ca,a0.cc,s.ba,s.bc,s.pa,s.pc,s.sa,s.sc⟩:A6) M.answered M.done M.status),rfl,e.1.symm,(Hc hb (Ga hput) (fun _=>hk) (fun e_=>by rw[hput]at e_;cases e_) a3 hr ⟨a2.r.ent,a2.r.mrk,a2.r.cl⟩ hnk a9 aX hrb hrk (Zf aY) (fun h_=>a8 (cart_d m h_)) (fun h_=>aW (cart_d M.kb h_)) (fun q_ h_=>(Zf aZ) q_ (cart_d q_ h_))),(Gb hok0 hlt ⟨hv,hE,a2.ent.le_cap⟩)⟩,?_⟩,(Hu (P:=fun q_=>Dx m M q_∨w.heap.size≤q_) (.inl (.inl rfl)) (.inl (.inr (.inl rfl))) (fun q_ h_=>(Nat.lt_or_ge q_ w.heap.size).elim (fun l_=> .inl (b2 q_ h_ l_)) .inr) (fun q_ h_=> .inl (.inr (.inr (.inr h_)))) (fun q_ h_=>(fun q_ h_=>Or.inr (b1 q_ h_)) q_ (cart_d q_ h_))),K0⟩;rw[e.2];replace a1:=a1.ext aC;exact .inl ⟨rfl,rfl⟩
    ·refine Al.drawS [] [0,2001,2,3,4,5,6,1007,1008,2009,10,11,12,13,1014,15,16,17,1018,19,20,21,22,23,1024,2025,26,27] ?_
     intro c9 aD;replace hb:=hb.ext aD;replace a1:=a1.ext aD;refine jM (jb hb (jb a1 Jn)) ?_;refine jG ?_;replace hk:=hk.ext aD;replace hgt:=hgt.ext aD;replace hr:=hr.ext aD;refine jU rfl<|jC (DQ m M _ (CO hb hput hk hgt hr hnk hng hnkg hrb hrk hrg) hok0) ?_;rintro _ cb ⟨rfl,aE⟩;replace hb:=hb.ext aE;replace a1:=a1.ext aE;refine BP ?_;refine jP ?_ (hx:=by exact fun _=>(AR (AS rfl) (by simp[hlv])));refine jG ?_;refine jX rfl<|AD.callI (vals:=[jp M.kb,.agg #[.int .i64 ((An v s).kind),.int .i64 ((An v s).frm),.int .i64 ((An v s).to),.int .i64 ((An v s).req),.string ((An v s).key),.slice s.ea v.ent.length s.ec,.slice s.ma v.mrk.length s.mc,.slice s.ca v.cl.length s.cc,.int .i64 ((An v s).owner),.int .i64 ((An v s).part),.int .i64 ((An v s).n),.int .i64 (((An v s).ring).parts),.int .i64 (((An v s).ring).copies),.int .i64 (((An v s).ring).spots),.slice s.ba v.mem.length s.bc,.slice s.pa v.pe.length s.pc,.slice s.sa v.su.length s.sc]]) (fun w=>by kernel_rfl) en152.h rfl rfl (HO (some ⟨M.kb,0,none⟩) v s _) ?_;rintro _ cd ⟨rfl,aF⟩;replace hb:=hb.ext aF;replace a1:=a1.ext aF;refine BP ?_;refine jQ ?_ (hx:=by exact fun _ hg=>(AR (AS rfl) (by simp[hkd])));refine jP ?_ (hx:=by exact fun _=>(Bi rfl rfl rfl));refine EB ?_;refine CU ?_;refine Cc ?_;refine jQ ?_ (hx:=by exact fun _ hg=>(AR (Co rfl rfl) (by simp[hrq])));refine jP ?_ (hx:=by exact fun _=>(Bi rfl rfl rfl));refine jG ?_;replace hk:=(hk.ext aE).ext aF;replace hgt:=(hgt.ext aE).ext aF;replace hr:=(hr.ext aE).ext aF;refine jX rfl<|jC (M5 m M v.frm _ (CO hb hput hk hgt hr hnk hng hnkg hrb hrk hrg) hok0) ?_;rintro _ ce ⟨rfl,aG⟩;replace hb:=hb.ext aG;replace a1:=a1.ext aG;refine BP ?_;refine jQ ?_ (hx:=by exact fun _ hg=>(A3 (AS rfl) (by simp[hop])));refine jP ?_ (hx:=by exact fun _=>(Bi rfl rfl rfl));refine jG ?_;refine CE ?_;refine jG ?_;refine jK func11 ?_;replace hR:=(((hR.ext aD).ext aE).ext aF).ext aG;replace K0:=(((K0.ext aD).ext aE).ext aF).ext aG;replace hk:=hk.ext aG;replace hgt:=hgt.ext aG;replace hr:=hr.ext aG;exact⟨_,rfl,Dx m M,_,rfl,.inl ⟨by rw[←Bool.not_eq_true,DS hput];exact fun h_=>hop h_.2.2.2,⟨M,rfl,rfl,(CO hb hput hk hgt hr hnk hng hnkg hrb hrk hrg),hok0⟩,rfl⟩,fun q_ h_=> .inl h_,K0⟩
   ·refine Al.drawS [] [0,2001,2,3,4,5,6,1007,1008,2009,10,11,12,13,1014,15,16,17,1018,19,20,21,22,23,24,2025,26,27] ?_
    intro cf aH;replace hb:=hb.ext aH;replace a1:=a1.ext aH;refine jM (jb hb (jb a1 Jn)) ?_;refine jG ?_;replace hk:=hk.ext aH;replace hgt:=hgt.ext aH;replace hr:=hr.ext aH;refine jU rfl<|jC (DQ m M _ (CO hb hput hk hgt hr hnk hng hnkg hrb hrk hrg) hok0) ?_;rintro _ cg ⟨rfl,aI⟩;replace hb:=hb.ext aI;replace a1:=a1.ext aI;refine BP ?_;refine jP ?_ (hx:=by exact fun _=>(AR (AS rfl) (by simp[hlv])));refine jG ?_;refine jX rfl<|AD.callI (vals:=[jp M.kb,.agg #[.int .i64 ((An v s).kind),.int .i64 ((An v s).frm),.int .i64 ((An v s).to),.int .i64 ((An v s).req),.string ((An v s).key),.slice s.ea v.ent.length s.ec,.slice s.ma v.mrk.length s.mc,.slice s.ca v.cl.length s.cc,.int .i64 ((An v s).owner),.int .i64 ((An v s).part),.int .i64 ((An v s).n),.int .i64 (((An v s).ring).parts),.int .i64 (((An v s).ring).copies),.int .i64 (((An v s).ring).spots),.slice s.ba v.mem.length s.bc,.slice s.pa v.pe.length s.pc,.slice s.sa v.su.length s.sc]]) (fun w=>by kernel_rfl) en152.h rfl rfl (HO (some ⟨M.kb,0,none⟩) v s _) ?_;rintro _ ch ⟨rfl,aJ⟩;replace hb:=hb.ext aJ;replace a1:=a1.ext aJ;refine BP ?_;refine jQ ?_ (hx:=by exact fun _ hg=>(AR (AS rfl) (by simp[hkd])));refine jP ?_ (hx:=by exact fun _=>(Bi rfl rfl rfl));refine EB ?_;refine CU ?_;refine Cc ?_;refine jQ ?_ (hx:=by exact fun _ hg=>(A3 (Co rfl rfl) (by simp[hrq])));refine jP ?_ (hx:=by exact fun _=>(Bi rfl rfl rfl));refine jG ?_;refine jY ?_;refine jG ?_;refine jP ?_ (hx:=by exact fun _=>(Ba (b:=true) (e:=false) rfl rfl rfl));refine jG ?_;refine CE ?_;refine jG ?_;refine jK func11 ?_;replace hR:=((hR.ext aH).ext aI).ext aJ;replace K0:=((K0.ext aH).ext aI).ext aJ;replace hk:=(hk.ext aI).ext aJ;replace hgt:=(hgt.ext aI).ext aJ;replace hr:=(hr.ext aI).ext aJ;exact⟨_,rfl,Dx m M,_,rfl,.inl ⟨by rw[←Bool.not_eq_true,DS hput];exact fun h_=>hrq h_.2.2.1,⟨M,rfl,rfl,(CO hb hput hk hgt hr hnk hng hnkg hrb hrk hrg),hok0⟩,rfl⟩,fun q_ h_=> .inl h_,K0⟩
  ·refine Al.drawS [] [0,2001,2,3,4,5,6,1007,1008,2009,10,11,12,13,14,15,16,17,18,19,20,21,22,23,24,2025,26,27] ?_
   intro ci aK;replace hb:=hb.ext aK;replace a1:=a1.ext aK;refine jM (jb hb (jb a1 Jn)) ?_;refine jG ?_;replace hk:=hk.ext aK;replace hgt:=hgt.ext aK;replace hr:=hr.ext aK;refine jU rfl<|jC (DQ m M _ (CO hb hput hk hgt hr hnk hng hnkg hrb hrk hrg) hok0) ?_;rintro _ cj ⟨rfl,aL⟩;replace hb:=hb.ext aL;replace a1:=a1.ext aL;refine BP ?_;refine jP ?_ (hx:=by exact fun _=>(AR (AS rfl) (by simp[hlv])));refine jG ?_;refine jX rfl<|AD.callI (vals:=[jp M.kb,.agg #[.int .i64 ((An v s).kind),.int .i64 ((An v s).frm),.int .i64 ((An v s).to),.int .i64 ((An v s).req),.string ((An v s).key),.slice s.ea v.ent.length s.ec,.slice s.ma v.mrk.length s.mc,.slice s.ca v.cl.length s.cc,.int .i64 ((An v s).owner),.int .i64 ((An v s).part),.int .i64 ((An v s).n),.int .i64 (((An v s).ring).parts),.int .i64 (((An v s).ring).copies),.int .i64 (((An v s).ring).spots),.slice s.ba v.mem.length s.bc,.slice s.pa v.pe.length s.pc,.slice s.sa v.su.length s.sc]]) (fun w=>by kernel_rfl) en152.h rfl rfl (HO (some ⟨M.kb,0,none⟩) v s _) ?_;rintro _ ck ⟨rfl,aM⟩;replace hb:=hb.ext aM;replace a1:=a1.ext aM;refine BP ?_;refine jQ ?_ (hx:=by exact fun _ hg=>(A3 (AS rfl) (by simp[hkd])));refine jP ?_ (hx:=by exact fun _=>(Bi rfl rfl rfl));refine jG ?_;refine jP ?_ (hx:=by exact fun _=>(Ba (b:=true) (e:=false) rfl rfl rfl));refine jG ?_;refine jY ?_;refine jG ?_;refine jP ?_ (hx:=by exact fun _=>(Ba (b:=true) (e:=false) rfl rfl rfl));refine jG ?_;refine CE ?_;refine jG ?_;refine jK func11 ?_;replace hR:=((hR.ext aK).ext aL).ext aM;replace K0:=((K0.ext aK).ext aL).ext aM;replace hk:=(hk.ext aL).ext aM;replace hgt:=(hgt.ext aL).ext aM;replace hr:=(hr.ext aL).ext aM;exact⟨_,rfl,Dx m M,_,rfl,.inl ⟨by rw[←Bool.not_eq_true,DS hput];exact fun h_=>hkd h_.2.1,⟨M,rfl,rfl,(CO hb hput hk hgt hr hnk hng hnkg hrb hrk hrg),hok0⟩,rfl⟩,fun q_ h_=> .inl h_,K0⟩
 ·refine Al.drawS [] [0,2001,2,3,4,5,6,7,8,2009,10,11,12,13,14,15,16,17,18,19,20,21,22,23,24,2025,26,27] ?_
  intro cm aU;replace hb:=hb.ext aU;replace a1:=a1.ext aU;refine jM (jb hb (jb a1 Jn)) ?_;refine jG ?_;replace hk:=hk.ext aU;replace hgt:=hgt.ext aU;replace hr:=hr.ext aU;refine jU rfl<|jC (DQ m M _ (CO hb hput hk hgt hr hnk hng hnkg hrb hrk hrg) hok0) ?_;rintro _ cn ⟨rfl,aV⟩;replace hb:=hb.ext aV;replace a1:=a1.ext aV;refine BP ?_;refine jP ?_ (hx:=by exact fun _=>(A3 (AS rfl) (by simp[hlv])));refine jG ?_;refine jY ?_;refine jG ?_;refine jP ?_ (hx:=by exact fun _=>(Ba (b:=true) (e:=false) rfl rfl rfl));refine jG ?_;refine jP ?_ (hx:=by exact fun _=>(Ba (b:=true) (e:=false) rfl rfl rfl));refine jG ?_;refine jY ?_;refine jG ?_;refine jP ?_ (hx:=by exact fun _=>(Ba (b:=true) (e:=false) rfl rfl rfl));refine jG ?_;refine CE ?_;refine jG ?_;refine jK func11 ?_;replace K0:=(K0.ext aU).ext aV;replace hk:=hk.ext aV;replace hgt:=hgt.ext aV;replace hr:=hr.ext aV;exact⟨_,rfl,Dx m M,_,rfl,.inl ⟨by rw[←Bool.not_eq_true,DS hput];exact fun h_=>hlv h_.1,⟨M,rfl,rfl,(CO hb hput hk hgt hr hnk hng hnkg hrb hrk hrg),hok0⟩,rfl⟩,fun q_ h_=> .inl h_,K0⟩
theorem Mb (m:Nat)(F:Nat→Prop)(Q:PM)(w:World)(hM:B3 w m F Q)(hmd:Q.made=true):
  Calls prog 16 #[jp m] w (AU fun v w'=>v= .bool Q.done∧As w w'):=by
 obtain⟨M,rfl,rfl,h,ho⟩:=hM
 refine(SO m M w h ho).mono ?_
 rintro e_ w_ ⟨v_,h1_,h2_,h3_⟩
 refine⟨v_,h1_,?_,h3_⟩
 rw[h2_,show M.made=true from hmd,Bool.true_and,Bool.not_not]
end Go.Proofs.YtocgdeefgohdhaaGreat
