/-
  Mr, Ms, Mt, Mu, Mv, Mw, Mx
-/
import Derived.Test.YtjkaicjmfgekjaaGreatDoorPcMp
set_option linter.all false
set_option maxRecDepth 100000
set_option maxHeartbeats 4000000
namespace Go.Proofs.YtjkaicjmfgekjaaGreatDoor
open Go.Proofs.Tryz
attribute [local irreducible] RD RS AB RL RA RT CB Ai
open Go.Shelf
def keysLC_ren :Go.Shelf.Ren:=⟨fun|7=>107|10=>168|n=>n,fun|23=>90|26=>9|3=>33|28=>178|0=>0|27=>177|33=>37|4=>4|n=>n,fun|n=>n⟩
def keysLC :Go.Proofs.SlLaysZ.n7 prog keysLC_ren:={
 mixed:=by kernel_rfl
 f7:=⟨Tryz.f107.name,by decide,func107.trans (congrArg some Zk)⟩
 f10:=⟨Tryz.f168.name,by decide,func168.trans (congrArg some Zk)⟩
 t0:=underlying0
 a0:=Tryz.isAgg0
 z0:=Tryz.sizeOf0
 v0:=Tryz.zeroValue0
 t4:=underlying4
 a4:=Tryz.isAgg4
 z4:=Tryz.sizeOf4
 v4:=Tryz.zeroValue4
 t23:=underlying90
 a23:=Tryz.isAgg90
 z23:=Tryz.sizeOf90
 v23:=Tryz.zeroValue90
 t26:=underlying9
 a26:=Tryz.isAgg9
 z26:=Tryz.sizeOf9
 v26:=Tryz.zeroValue9
 t27:=underlying177
 a27:=Tryz.isAgg177
 z27:=Tryz.sizeOf177
 v27:=Tryz.zeroValue177
 t28:=underlying178
 a28:=Tryz.isAgg178
 z28:=Tryz.sizeOf178
 v28:=Tryz.zeroValue178
 t33:=underlying37
 a33:=Tryz.isAgg37
 z33:=Tryz.sizeOf37
 v33:=Tryz.zeroValue37}
open Go.RowKit Go.Maps Go.Sort
def Z0 (mb:Option Nat)(W:World):CallsIn Fence.wide 5 prog 107 #[.map mb] W λe w'=>e= .returned (.func (.func 168) #[] #[jp W.heap.size])/\w'=W.alloc (.cells #[.map mb] 90):=
 AnyZ.keys_in keysLC Fence.wide 5 trivial rfl mb W
def V3 {H:Type}(b nn:Nat)(D0:DataW H)(R:Value->Option (DataW H×List MemPlace))(w:World)(hown:w.ownsMap prog 9 R b nn D0)(hmax:Maps.size D0<=maxLen)(hbytes:Maps.size D0*16<=140737488355328):
  CallsIn Fence.wide 5 prog 106 #[.func (.func 168) #[] #[jp w.heap.size]] (w.alloc (.cells #[.map (some b)] 90)) λe w'=>∃(v:Value) (ss:List (List UInt8)),e= .returned v/\ss.Perm (strKeys D0)/\
   w'.ownsRow (w.alloc (.cells #[.map (some b)] 90)).heap.size 9 1 v ss.length ((ss.mergeSort (λx y=>decide (x<=y))).map encStr)/\(v= .slice none 0 0↔ss=[])/\RowKit.Below (w.alloc (.cells #[.map (some b)] 90)).heap.size (w.alloc (.cells #[.map (some b)] 90)) w':=by
 have hbl:=hown.lt;have hseq:SeqGives Fence.wide 2 prog 168 #[jp w.heap.size] encStr (λss=>ss.Perm (strKeys D0)) (Maps.size D0) (w.alloc (.cells #[.map (some b)] 90)):=
  AnyZ.keys_gives (ρ:=keysLC_ren) {keysLC with} Fence.wide _ trivial rfl Zo w.heap.size b nn D0 _ Zs Zs (by
   obtain⟨es,clock,hb,Ft,hs,hD⟩:=hown;exact⟨es,clock,(Below.heap_alloc _ _ b hbl).trans hb,Ft,hs,hD⟩)
 exact AnyZ.sorted_in sortedL Fence.wide 5 trivial trivial trivial trivial rfl Zo (Qa _) (C1 func167 rfl Zk) 168 #[jp w.heap.size] trivial (C1 func168 rfl Zk) _ _ hmax hbytes _ hseq
def V4 (m:Nat)(w:World):Calls prog 107 #[.map (some m)] w (AU λv w'=>v= .func (.func 168) #[] #[jp w.heap.size]/\w'=w.alloc (.cells #[.map (some m)] 90)):=
 (callsIn_wide.1 (Z0 (some m) w)).mono λe w' h=>⟨_,h.1,rfl,h.2⟩
def PC {ps:List (ByteArray×Value)}(m:Nat)(w:World)(h:Aq w m ps)(hk:∀p∈ps,p.1.size<=4294967295)(hl:ps.length<=4294967295):
  Calls prog 106 #[.func (.func 168) #[] #[jp w.heap.size]] (w.alloc (.cells #[.map (some m)] 90)) (AU λv w'=>∃a c,v= .slice a (AV (ps.map (·.1))).length c/\Af w' 9 a c (AV (ps.map (·.1)))/\
   (∀q,own a q->(w.alloc (.cells #[.map (some m)] 90)).heap.size<=q)/\As (w.alloc (.cells #[.map (some m)] 90)) w'):=by
 obtain⟨D,h1,h2,h3⟩:=HV h (λp hp=>by have:=hk p hp;simp only[maxLen];omega) (by simp only[maxLen];omega);refine(callsIn_wide.1 (V3 m _ D _ w h1 (by rw[h3];simp only[maxLen];omega) (by rw[h3];omega))).mono λe w' he=> ?_;obtain⟨v,ss,rfl,hS,hrow,-,hb⟩:=he;have e1:(ss.mergeSort leB).map encStr=AS (AV (ps.map (·.1))):=by
  rw[mergeSort_of_perm (hS.trans h2),AV,KT,Aat];rfl
 have e2:ss.length=(AV (ps.map (·.1))).length:=by rw[hS.length_eq,h2.length_eq,BN.length_eq];simp
 obtain⟨a,c,rfl,h4,h5⟩:=G4 (xs:=AV (ps.map (·.1))) (by rw[<-e1];exact hrow) e2;exact⟨_,rfl,a,c,rfl,h4,h5,Fe hb⟩
end Go.Proofs.YtjkaicjmfgekjaaGreatDoor
namespace Go.Proofs.YtjkaicjmfgekjaaGreatDoor
open Go.Proofs.Tryz
attribute [local irreducible] RD RS AB RL RA RT CB Ai AD DP Cx BI By Ca B6 DJ Cf itemsN BZ AQ Bl BL Gr AK A2 At BW Ar A7 Aw A6 EG AL AN Cv setM Au Ap encK X
def XR (b lg m1 m2 m3:Nat)(st:Int)(ps:List (ByteArray×Value))(w:World)(hb:AC w b [.int .i32 0,.int .u32 0,jp lg,.int .i64 st,.map (some m1),.map (some m2),.map (some m3)] 94)(hM1:Aq w m1 ps)(n2:b≠m1)(hks:∀p∈ps,p.1.size<=4294967295)(hpl:ps.length<=4294967295):
  Calls prog 51 #[jp b] w (AU (λr w'=>AC w' b [.int .i32 0,.int .u32 0,jp lg,.int .i64 st,.map (some m1),.map (some m2),.map (some m3)] 94/\Ae (one b) w w'/\∃a' c',r= .slice a' (AV (ps.map (·.1))).length c'/\Af w' 9 a' c' (AV (ps.map (·.1)))/\(∀q,own a' q->w.heap.size<=q))):=by
 refine kD (n:=15) func51 ?_;refine kS (BA _ _ _ _ _ _ _ hb) ?_;rintro _ a0 ⟨rfl,a3,a4⟩;have K0:=(Ae.refl (one b) w).tf a4 rfl;replace hb:=a3;clear a3;refine kE (Bp (b:=true) rfl) ?_;refine kH ?_;refine RL.defer (vals:=[jp b]) rfl ?_;refine jG ?_;refine kS (V4 m1 _) ?_;rintro _ _ ⟨rfl,rfl⟩;replace hM1:=hM1.kO a4 (Zx (λe_=>n2 e_));have hM0:=hM1;have a5:As a0 (a0.alloc (.cells #[.map (some m1)] 90)):=As.push _ _;refine kS (PC m1 a0 hM0 hks Zo) ?_;rintro _ a6 ⟨aa,ab,rfl,a1,a2,a7⟩;replace hb:=hb.ext a5;have ac:=Ay a2 hb.lt;replace K0:=K0.ext a5;have ad:=Bg K0.size a2;clear a2;refine jG ?_;replace hb:=hb.ext a7;refine Ai.retU muLib func51 rfl (λ_=>Bw rfl rfl) hb.cellH (hb.thawH 0) ?_;obtain⟨a8,hwU_⟩:∃w_,w_=a6.setCell ⟨b,0,none⟩ (.int .i32 0):=⟨_,rfl⟩;rw[<-hwU_];have hbU_:AC a8 b [.int .i32 0,.int .u32 0,jp lg,.int .i64 st,.map (some m1),.map (some m2),.map (some m3)] 94:=hwU_▸hb.setH;have a9:Ae (one b) a6 a8:=hwU_▸AP _ _ _ _;replace K0:=K0.ext a7;replace K0:=K0.tf a9 rfl;replace hb:=hbU_;replace a1:=a1.kO a9 (Aa ac);exact⟨_,rfl,hb,K0,aa,ab,rfl,a1,ad⟩
section
structure IU (s:KF)(n:Nat):Prop where
 c:∃l:List ByteArray,l.length<=n/\∀key,s.c key≠none->key∈l
 h:∃l:List AE,l.length<=n/\∀x,s.h x->x∈l
 m:∀key,(s.m key).length<=n
 k:∃l:List ByteArray,l.length<=n/\∀key,s.m key≠ []->key∈l
def few0 :IU kf0 0:=⟨⟨[],Aac _,λ_ h=>absurd rfl h⟩,⟨[],Aac _,λ_ h=>h.elim⟩,λ_=>Aac _,⟨[],Aac _,λ_ h=>absurd rfl h⟩⟩
def IU.mono {s:KF}{n m:Nat}(h:IU s n)(hm:n<=m):IU s m:=by
 obtain⟨⟨l1,a1,b1⟩,⟨l2,a2,b2⟩,h3,⟨l4,a4,b4⟩⟩:=h;exact⟨⟨l1,by omega,b1⟩,⟨l2,by omega,b2⟩,λk=>Aaa (h3 k) hm,⟨l4,by omega,b4⟩⟩
def IU.app {s : KF} {n : Nat} (r : BM) (h : IU s n) : IU (Dz s r) (n + 1) := by
  obtain ⟨⟨l1, a1, b1⟩, ⟨l2, a2, b2⟩, h3, ⟨l4, a4, b4⟩⟩ := h;have x1 : ∃ l : List ByteArray, l.length <= n + 1 /\ ∀ key, s.c key ≠ none -> key ∈ l := ⟨l1, by omega, b1⟩
  have x2 : ∃ l : List AE, l.length <= n + 1 /\ ∀ x, s.h x -> x ∈ l := ⟨l2, by omega, b2⟩
  have x3 : ∀ key, (s.m key).length <= n + 1 := λk => Nat.le_succ_of_le (h3 k)
  have x4 : ∃ l : List ByteArray, l.length <= n + 1 /\ ∀ key, s.m key ≠ [] -> key ∈ l := ⟨l4, by omega, b4⟩
  have y1 : ∀ (key : ByteArray) (x : Option MV), ∃ l : List ByteArray, l.length <= n + 1 /\ ∀ k, Dy s.c key x k ≠ none -> k ∈ l := λkey x => ⟨key :: l1, by simp; omega, λk hk => by
    by_cases e : k = key
    · rw [e]; exact AaC
    rw [BT e] at hk; exact Aau _ (b1 k hk)⟩
  cases r with
  | o _ => exact ⟨x1, x2, x3, x4⟩
  | j key v => exact ⟨y1 key _, x2, x3, x4⟩
  | d key => exact ⟨y1 key _, x2, x3, x4⟩
  | h x => exact ⟨x1, ⟨x :: l2, by simp; omega, λy (hy : y = x \/ s.h y) => hy.elim (λe => by rw [e]; exact AaC) λe => Aau _ (b2 y e)⟩, x3, x4⟩
  | u x => exact ⟨x1, ⟨l2, by omega, λy hy => b2 y hy.2⟩, x3, x4⟩
  | r key m =>
    refine ⟨y1 key _, x2, λk => ?_, ⟨key :: l4, by simp; omega, λk hk => ?_⟩⟩
    · show (Dy s.m key (setM (s.m key) (Ab.d m)) k).length <= n + 1
      by_cases e : k = key
      · rw [e, BD]; exact Aaa (IG _ _) (Nat.succ_le_succ (h3 key))
      rw [BT e]; exact x3 k
    by_cases e : k = key
    · rw [e]; exact AaC
    have hk : Dy s.m key (setM (s.m key) (Ab.d m)) k ≠ [] := hk;rw [BT e] at hk; exact Aau _ (b4 k hk)
def EC {α : Type} [DecidableEq α] : ∀ {l k : List α}, l.Nodup -> (∀ x ∈ l, x ∈ k) -> l.length <= k.length
  | [], _, _, _ => Aal _
  | x :: l, k, hn, h => by
    rw [AaN] at hn;have hx := h x AaC;have := EC (l := l) (k := k.erase x) hn.2 λy hy => (List.mem_erase_of_ne (fun (e : y = x) => hn.1 (by rw [<- e]; exact hy))).2 (h y (Aau _ hy))
    rw [List.length_erase_of_mem hx] at this;have := List.length_pos_of_mem hx;rw [Aaj]; omega
variable {w w':World}{b d lg m1 m2 m3:Nat}{F F' Z S:Nat->Prop}{st:Int}{pl pl':List PF}{ts ts':List Kc}{ks ks':List Km}{hs hs':List AE}{s:KF}{key:ByteArray}
def LJ (s:KF)(l:List ByteArray):Prop:=l.Nodup/\∀key,key∈l↔s.c key≠none
def Nb (H : H7 w b d lg m1 m2 m3 F pl st ts ks hs) (T : Ds s st ts ks hs) : LJ s ((ts.map Kc.kv).map (·.1)) := by
  refine ⟨H.mc.nodup, λkey => ?_⟩;rw [Aat, Aae];constructor
  · rintro ⟨t, ht, rfl⟩ e;have := (T.c t.key t.v).2 ⟨t, ht, rfl, rfl⟩;rw [show s.c t.key = none from e] at this; cases this
  intro h;cases e : s.c key with
  | none => exact absurd e h
  | some v =>
    obtain ⟨t, ht, hk, -⟩ := (T.c key v).1 e;exact ⟨t, ht, hk⟩
def iJ {n:Nat}(h:GQ w b d Z pl s)(hL:A5 w)(hG:FE s)(hf:IU s n)(hn:n<=1000):
  Calls prog 51 #[jp b] w (AU λr w'=>GQ w' b d Z pl s/\Ae Z w w'/\∃l a' c',LJ s l/\r= .slice a' (AV l).length c'/\Af w' 9 a' c' (AV l)/\(∀q,own a' q->w.heap.size<=q)):=by
 obtain⟨lg,m1,m2,m3,F,st,ts,ks,hs,rfl,H,T⟩:=h;have hk:=Nb H T;obtain⟨l0,hl0,hl1⟩:=hf.c;have hlen:(ts.map Kc.kv).length<=1000:=by
  have:=EC (l:=(ts.map Kc.kv).map (·.1)) (k:=l0) hk.1 λx hx=>hl1 x ((hk.2 x).1 hx)
  rw[Aad]at this;omega
 have hsz:∀p∈ts.map Kc.kv,p.1.size<=4294967295:=λp hp=>by
  have h1:=(hk.2 p.1).1 (List.mem_map.2 ⟨p,hp,rfl⟩);cases e:s.c p.1 with
  |none=>exact absurd e h1
  |some v=>exact Aaa (Bc (hG.c _ v e)) Zd
 refine(XR b lg m1 m2 m3 st _ w H.blk H.mc H.ne.2.1 hsz Zo).mono λe w' hh=> ?_;obtain⟨v,rfl,hb,K,a',c',rfl,h1,h2⟩:=hh;exact⟨_,rfl,⟨lg,m1,m2,m3,F,st,ts,ks,hs,rfl,H.same hL.size K hb,T⟩,K.mono λq _ hq=>one_set9 q hq,_,a',c',hk,rfl,h1,h2⟩
end
end Go.Proofs.YtjkaicjmfgekjaaGreatDoor
namespace Go.Proofs.YtjkaicjmfgekjaaGreatDoor
open Go.Proofs.Tryz
attribute [local irreducible] RD RS AB RL RA RT CB Ai AD DP Cx BI By Ca B6 DJ Cf itemsN BZ AQ Bl BL Gr AK A2 At BW Ar A7 Aw A6 EG AL AN Cv setM Au Ap
section
def E6 {s:KF}{rs ss:List BM}:DI s (rs++ss)=DI (DI s rs) ss:=Abg
def OkRun.append {rs ss:List BM}:∀{s:KF},OkRun s rs->OkRun (DI s rs) ss->OkRun s (rs++ss):=by
 induction rs with
 |nil=>exact λ_ h=>h
 |cons r rs ih=>exact λh k=>⟨h.1,ih h.2 k⟩
def OkRun.take {rs : List BM} : ∀ {s : KF} (i : Nat), OkRun s rs -> OkRun s (rs.take i) := by
  induction rs with
  | nil => intro s i h; rw [List.take_nil]; exact h
  | cons r rs ih =>
    intro s i h;cases i with
    | zero => exact trivial
    | succ i => exact ⟨h.1, ih i h.2⟩
def OkRun.good {rs:List BM}:∀{s:KF},FE s->OkRun s rs->FE (DI s rs):=by
 induction rs with
 |nil=>exact λh _=>h
 |cons r rs ih=>exact λh k=>ih (h.app k.1) k.2
def N3 {rs:List BM}:∀{s:KF} {n:Nat},IU s n->IU (DI s rs) (n+rs.length):=by
 induction rs with
 |nil=>exact λh=>h
 |cons r rs ih=>exact λ{s n} h=>(ih (h.app r)).mono (by rw[Aaj];omega)
def good0 :FE kf0:=⟨(λ_ _ h=>nomatch h),(λ_ (h:False)=>h.elim)⟩
def ED {s : KF} {r : BM} (h : Kn s r) : 0 < (encK r).length /\ (encK r).length <= 9100 := by
  have h1 : ∀ k : Nat, ([UInt8.ofNat k] : List UInt8).length = 1 := λ_ => rfl
  cases r with
  | o n =>
    have h : n < 4611686018427387904 := h;have hv := Bb (n := n) Zo;show 0 < ([UInt8.ofNat 1] ++ Al n).length /\ ([UInt8.ofNat 1] ++ Al n).length <= 9100
    rw [Aab, h1]; omega
  | j key v =>
    have ht := CA (Bc h.1);have he := Hc h.2.2.1 h.2.1;show 0 < (CK key v).length /\ (CK key v).length <= 9100
    unfold CK;simp only [Aab, h1]; omega
  | d key =>
    have ht := CA (Bc h);show 0 < ([UInt8.ofNat 3] ++ AL key).length /\ ([UInt8.ofNat 3] ++ AL key).length <= 9100
    rw [Aab, h1]; omega
  | h x =>
    have ht := CA (Bc h.2);have hv := Bb (n := x.owner.toNat) (by have := h.1; omega);show 0 < (([UInt8.ofNat 4] ++ Al x.owner.toNat) ++ AL x.key).length /\ (([UInt8.ofNat 4] ++ Al x.owner.toNat) ++ AL x.key).length <= 9100
    simp only [Aab, h1]; omega
  | u x =>
    have ht := CA (Bc h.2);have hv := Bb (n := x.owner.toNat) (by have := h.1; omega);show 0 < (([UInt8.ofNat 5] ++ Al x.owner.toNat) ++ AL x.key).length /\ (([UInt8.ofNat 5] ++ Al x.owner.toNat) ++ AL x.key).length <= 9100
    simp only [Aab, h1]; omega
  | r key m =>
    have ht := CA (Bc h.1);have hm := h.2.1;simp only [AD, Ab.d] at hm;have h2 := Bb (n := m.node.toNat) Zo;have h3 := Bb (n := m.life.toNat) Zo;have h4 := Bb (n := m.count.toNat) Zo;show 0 < (((([UInt8.ofNat 6] ++ AL key) ++ Al m.node.toNat) ++ Al m.life.toNat) ++ Al m.count.toNat).length /\ (((([UInt8.ofNat 6] ++ AL key) ++ Al m.node.toNat) ++ Al m.life.toNat) ++ Al m.count.toNat).length <= 9100
    simp only [Aab, h1]; omega
def OkRun.lens {rs : List BM} : ∀ {s : KF}, OkRun s rs -> ∀ p ∈ rs.map encK, 0 < p.length /\ p.length <= 9100 := by
  induction rs with
  | nil => intro s _ p hp; cases hp
  | cons r rs ih =>
    intro s h p hp;rcases List.mem_cons.1 hp with rfl | hp
    · exact ED h.1
    exact ih h.2 p hp
structure N4 (syn:Nat)(rs:List BM)(pl:List PF)(s:KF):Prop where
 run:OkRun kf0 rs
 st:s=DI kf0 rs
 log:Iy syn (rs.map encK) pl
variable {syn :Nat}{rs:List BM}{pl:List PF}{s:KF}
def N4.happ (h:N4 syn rs pl s)(hl:rs.length<=45):∀r,Kn s r->(Aw 4194304 pl (encK r)).1=0:=λr hr=>
 (h.log.append (ED hr).1 (ED hr).2 (by rw[Aad];omega) λp hp=>(h.run.lens p hp).2).1
def N4.app (h:N4 syn rs pl s)(hl:rs.length<=45){r:BM}(hr:Kn s r):N4 syn (rs++[r]) (Aw 4194304 pl (encK r)).2 (Dz s r):=
 ⟨h.run.append (by rw[<-h.st];exact⟨hr,trivial⟩),by rw[E6,<-h.st];rfl,by rw[Aam];exact(h.log.append (ED hr).1 (ED hr).2 (by rw[Aad];omega) λp hp=>(h.run.lens p hp).2).2⟩
def N4.sync (h:N4 syn rs pl s)(hl:rs.length<=45):N4 rs.length rs (GN pl) s:=⟨h.run,h.st,by have:=h.log.sync (by rw[Aad];omega);rwa[Aad]at this⟩
def N4.good (h:N4 syn rs pl s):FE s:=h.st▸h.run.good good0
def N4.few (h:N4 syn rs pl s):IU s rs.length:=by have:=N3 (rs:=rs) few0;rw[Aaq]at this;rw[h.st];exact this
def led0 :N4 0 [] [] kf0:=⟨trivial,rfl,logAt_nil⟩
end
end Go.Proofs.YtjkaicjmfgekjaaGreatDoor
namespace Go.Proofs.YtjkaicjmfgekjaaGreatDoor
open Go.Proofs.Tryz
attribute [local irreducible] RD RS AB RL RA RT CB Ai AD DP Cx BI By Ca B6 DJ Cf itemsN BZ AQ Bl BL Gr AK A2 At Ar A7
section
variable {pl :List PF}{recs:List (List UInt8)}{b:List UInt8}
def H8 {pl : List PF} : ∀ {ns : List Int} {R : List (List (List UInt8))}, Whole pl ns R -> (ns.map λk => (A9 pl (Ao k)).length).sum = Dq R.flatten
  | [], [], _ => rfl
  | [], _ :: _, h => h.elim
  | _ :: _, [], h => h.elim
  | n :: ns, rs :: R, h => by
    rw [Aaf, Abe, H8 h.2.2, h.1, AbL];unfold Dq;rw [Abq, Aab]
def LK (hn:(pl.map (·.name)).Nodup):A4 pl=((pl.map (·.name)).map λs=>(A9 pl s).length).sum:=by
 rw[A4,Aat];congr 1;refine AaE λf hf=> ?_;simp only[Function.comp];rw[OW hn hf]
def Ho.used (h:Ho pl recs):A4 pl=Dq recs/\pl.length<=60/\AT pl<=60:=by
 obtain⟨n,R,h1,h2,h3,rfl⟩:=h;have hn:=h1.nodup Zd Zo;refine⟨?_,?_,?_⟩
 ·rw[LK hn,h1,Aat];exact H8 h3
 ·have:=congrArg List.length h1
  rw[Aad,Aad,OV]at this;omega
 by_cases c:AT pl=0
 ·omega
 have:=Ga c
 rw[h1.segs Zd Zo,G6]at this;omega
def FQ (pl:List PF)(n:ByteArray):(Cq pl n).map (·.name)=pl.map (·.name)/\A4 (Cq pl n)=A4 pl/\(Cq pl n).length=pl.length:=by
 refine⟨?_,?_,by rw[Cq,DW,Aad]⟩
 ·rw[Cq,DW,Aat];refine AaE λf _=> ?_;simp only[Function.comp];split<;>rfl
 rw[A4,A4,Cq,DW,Aat];congr 1;refine AaE λf _=> ?_;simp only[Function.comp];split<;>rfl
def Ho.append (h:Ho pl recs)(h0:0<b.length)(h1:b.length<=9100)(hu:Dq recs+9113<=4194304):(Aw 4194304 pl b).1=0:=by
 obtain⟨e1,e2,e3⟩:=h.used;have hl:=Kb pl;have hm:BW b=0:=by rw[BW,if_neg (λe=>by rw[e]at h0;cases h0),if_neg Zo]
 have hf:=CI b Zo;have key:∀(q:List PF) (k:Int),q.length<=60->A4 q=A4 pl->1<=k->k<=70->Df 4194304 q (Ao k) (Ar b)=0:=λq k x1 x2 x3 x4=>by
  rw[Df,if_pos (Da Zo Zo),if_neg];rintro(⟨-,h9⟩|h9)
  ·omega
  rw[x2,e1]at h9;omega
 rw[Aw,if_neg (by rw[hm];decide)];split
 ·rw[if_neg Zo];exact key _ _ (by rw[(FQ _ _).2.2];exact e2) (FQ _ _).2.1 Zo Zo
 rw[if_neg Zo];exact key _ _ e2 rfl Zo Zo
end
end Go.Proofs.YtjkaicjmfgekjaaGreatDoor
namespace Go.Proofs.YtjkaicjmfgekjaaGreatDoor
open Go.Proofs.Tryz
attribute [local irreducible] RD RS AB RL RA RT CB Ai AD DP Cx BI By Ca B6 DJ Cf itemsN BZ AQ Bl BL Gr AK A2 At BW Ar A7 Aw A6 EG AL AN Cv setM Au Ap
noncomputable def plB :List PF:=GN (Aw 4194304 (A7 4194304 []).2.2 ([UInt8.ofNat 1]++Al (0+1))).2
noncomputable def sB :KF:=Dz (DI kf0 []) (.o (0+1))
def ledB :N4 1 [.o 1] plB sB/\sB.st=1:=by
 have h:=(led0.app (r:= .o 1) Zd (show(1:Nat)<4611686018427387904 by decide)).sync Zd;refine⟨?_,rfl⟩;have e:plB=GN (Aw 4194304 [] (encK (.o 1))).2:=by unfold plB;rw[OM];rfl
 rw[e];exact h
def openB :(A7 4194304 []).1=0/\(A7 4194304 []).2.1=([]:List BM).map encK/\(Aw 4194304 (A7 4194304 []).2.2 ([UInt8.ofNat 1]++Al (0+1))).1=0:=by
 rw[OM];exact⟨rfl,rfl,led0.happ Zd (.o 1) (show(1:Nat)<4611686018427387904 by decide)⟩
def Z1 (d:Nat)(F:Nat->Prop)(w:World)(hD:AJ w d F 4194304 [])(hL:A5 w)(hFG:∀q,F q->7<=q):
  Calls prog 19 #[jp d] w (AU λv w'=>∃b Z',v= .tuple #[jp b,.int .i64 0]/\GQ w' b d Z' plB sB/\AR w F Z'/\Ae F w w'):=by
 unfold plB sB;exact N2 d F [] [] 0 w hD hL hFG openB.1 openB.2.1 trivial rfl Zd Zd openB.2.2
attribute [irreducible] plB sB
attribute [local irreducible] X
def V5 (w:World)(hL:A5 w):
  Calls prog 6 #[] w (AU (λv w'=>∃d b Z,v= .tuple #[jp d,jp b,.bool true]/\GQ w' b d Z plB sB/\(∀q,Z q->w.heap.size<=q)/\As w w')):=by
 have hLs:=hL.size;refine kD (n:=33) func6 ?_;refine kS (ib 4194304 _ Zd) ?_;rintro _ af ⟨a4,ac,rfl,ad,a0,a5⟩;have a1:∀q_,ac q_->7<=q_:=λq_ h_=>Aaa hLs (Aaa (Aac _) (a0 q_ h_));have a6:=Bg (Aac _) a0;clear a0;have K0:=(a5:As w _);refine jG ?_;replace hL:=hL.ext a5;refine kS (Z1 _ _ _ ad hL a1) ?_;rintro _ ag ⟨a7,a2,rfl,a3,a8,a9⟩;have aa:∀q_,a2 q_->w.heap.size<=q_:=a8.ge a6 K0.size;have ah:∀q_,a2 q_->7<=q_:=λq_ h_=>(a8 q_ h_).elim (a1 q_) (λh2_=>Aaa hLs (Aaa K0.size h2_));refine jG ?_;refine kE (BP rfl rfl rfl) ?_;refine jT<|jO (DR (EW underlying24 rfl rfl) rfl) ?_;refine kE (BP rfl rfl rfl) ?_;replace hL:=hL.keep a9 a1;refine jT<|jC (IT a3 hL) ?_;rintro _ ai ⟨rfl,ab,ae⟩;replace a3:=ab;clear ab;refine jG ?_;refine kE (BP rfl rfl rfl) ?_;refine Ai.ret3 (v:=jp a4) (x:=jp a7) (y:= .bool (sB.st==1)) func6 rfl rfl rfl rfl ?_;replace K0:=(K0.new a9 a6).new ae aa;exact⟨_,rfl,a4,a7,a2,by rw[ledB.2];rfl,a3,aa,K0⟩
end Go.Proofs.YtjkaicjmfgekjaaGreatDoor
namespace Go.Proofs.YtjkaicjmfgekjaaGreatDoor
open Go.Proofs.Tryz
attribute [local irreducible] RD RS AB RL RA RT CB Ai AD DP Cx BI By Ca B6 DJ Cf itemsN BZ AQ Bl BL Gr AK A2 At BW Ar A7 Aw A6 EG AL AN Cv setM Au Ap
def kg (z:Int):∃k:Int,IntKind.i64.wrap ((IntKind.u64.wrap z).tmod 6)=k/\0<=k/\k<6:=by
 have h1:IntKind.u64.wrap z=z%18446744073709551616:=by simp[IntKind.wrap,IntKind.bits,IntKind.signed]
 rw[h1,Int.tmod_eq_emod_of_nonneg Zo];exact⟨_,Ni _ Zo Zo,by omega,by omega⟩
attribute [local irreducible] X
def Z2 (op n:Int)(key:ByteArray)(v:MV)(s:Gc)(m:Ab)(b d:Nat)(Z:Nat->Prop)(pl:List PF)(sk:KF)(w:World)(hS:GQ w b d Z pl sk)(hL:A5 w)(hZG:∀q,Z q->7<=q)(hks:key.size<=4294967295)(hR:Bi w s v)(hok:Bn v s)(hap:∀q,BS s v q->¬Z q)(hG:FE sk)(hm9:∀k,(sk.m k).length<1000)(happ:∀r,Kn sk r->(Aw 4194304 pl (encK r)).1=0):
  Calls prog 14 #[jp b,.agg #[.int .i64 op,.int .i64 n,.string key,.slice s.ea v.ent.length s.ec,.slice s.ma v.mrk.length s.mc,.slice s.ca v.cl.length s.cc,.int .i64 m.node,.int .i64 m.life,.int .i64 m.count]] w (AU (λ_ w'=>Gl w b d Z pl sk w')):=by
 have hLs:=hL.size;obtain⟨k6,ek,hk0,hk6⟩:=kg op;have hv:=hok.ok;have hv0:=hv;obtain⟨hv1,hv2,hv3,hv4,hv5,hv6⟩:=hv;refine kD (n:=49) func14 ?_;refine kQ ?_;intro ad a2 a8 a0 a7;have a1:=An hS.oL a8;have:w.heap.size<=ad:=a8;clear a8;have K0:=(a7:As w _).to (S:=Z);refine jG ?_;refine jV (Ia rfl ⟨_,underlying3⟩ underlying106) ?_;refine jV (gE rfl rfl Zd) ?_;refine kE (AA (c:=k6) (Ia rfl ⟨_,underlying106⟩ underlying3) ek) ?_;replace hS:=hS.ext a7;replace hR:=hR.ext a7;replace hL:=hL.ext a7;refine jF ?_ ?_
 ·intro hc15;refine kK ?_ ?_
  ·intro hc15;refine Ai.drawS [] [0,1,1002,3,1004,2005,2006] ?_;intro ai a3;replace a0:=a0.ext a3;refine kF (jb a0 Jn) ?_;replace hR:=hR.ext a3;refine jU rfl<|jC (VJ v s _ hR hok.ok) ?_;rintro _ ae ⟨aj,rfl,a9,ak,aa,a4⟩;replace hS:=hS.ext a3;have af:=Ag aa hS.oL;clear aa;replace a0:=a0.ext a4;refine jG ?_;replace hL:=(hL.ext a3).ext a4;replace hS:=hS.ext a4;refine jU rfl<|jC (iE hS hL Zo a9.r ⟨hok.ok,hok.ent,a9.ent.le_cap⟩ (λq_ h_=>af q_ (cart_d q_ h_)) happ) ?_;replace K0:=(K0.ext a3).ext a4;have hsz9:w.heap.size<=ae.heap.size:=K0.size;rintro r9 al ⟨Z9,pl9,s9,hS9,hm9_,hK9,hcs9⟩;replace K0:=K0.trans hK9 (λx hlt hx=>(λq_ h_ _=>h_) x hx hlt);replace a0:=a0.keep hK9 a1;refine jG ?_;refine Ai.fin0 func14 rfl ?_;replace hR:=hR.ext a4;replace hL:=hL.keep hK9 hZG;exact⟨_,rfl,Z9,pl9,s9,hS9,λq_ h_=>(hm9_ q_ h_).imp id (λy_=>Aaa hsz9 y_),K0,hcs9⟩
  intro hc15;refine kK ?_ ?_
  ·intro hc25;refine jG ?_;refine kS (Yq hS hG hL happ) ?_;have hsz9:w.heap.size<=a2.heap.size:=K0.size;rintro r9 am ⟨Z9,pl9,s9,hS9,hm9_,hK9,hcs9⟩;replace K0:=K0.trans hK9 (λx hlt hx=>(λq_ h_ _=>h_) x hx hlt);refine jG ?_;refine Ai.fin0 func14 rfl ?_;replace hL:=hL.keep hK9 hZG;replace a0:=a0.keep hK9 a1;exact⟨_,rfl,Z9,pl9,s9,hS9,λq_ h_=>(hm9_ q_ h_).imp id (λy_=>Aaa hsz9 y_),K0,hcs9⟩
  intro hc25;refine kK ?_ ?_
  ·intro hc31;refine jG ?_;refine jV (AO (cells:=#[.int .i64 n,.string key]) Zk) ?_;refine kS (Yr (x:=⟨n,key⟩) hS hL (by show key.size<=_;omega) happ) ?_;have hsz9:w.heap.size<=a2.heap.size:=K0.size;rintro r9 an ⟨Z9,pl9,s9,hS9,hm9_,hK9,hcs9⟩;replace K0:=K0.trans hK9 (λx hlt hx=>(λq_ h_ _=>h_) x hx hlt);refine jG ?_;refine Ai.fin0 func14 rfl ?_;replace hL:=hL.keep hK9 hZG;replace a0:=a0.keep hK9 a1;exact⟨_,rfl,Z9,pl9,s9,hS9,λq_ h_=>(hm9_ q_ h_).imp id (λy_=>Aaa hsz9 y_),K0,hcs9⟩
  intro hc31;refine kK ?_ ?_
  ·intro hc40;refine jG ?_;refine jV (AO (cells:=#[.int .i64 n,.string key]) Zk) ?_;refine kS (Sh (x:=⟨n,key⟩) hS hG hL happ) ?_;have hsz9:w.heap.size<=a2.heap.size:=K0.size;rintro r9 ao ⟨Z9,pl9,s9,hS9,hm9_,hK9,hcs9⟩;replace K0:=K0.trans hK9 (λx hlt hx=>(λq_ h_ _=>h_) x hx hlt);refine jG ?_;refine Ai.fin0 func14 rfl ?_;replace hL:=hL.keep hK9 hZG;replace a0:=a0.keep hK9 a1;exact⟨_,rfl,Z9,pl9,s9,hS9,λq_ h_=>(hm9_ q_ h_).imp id (λy_=>Aaa hsz9 y_),K0,hcs9⟩
  intro hc40;refine jG ?_;refine kS (iF hS hL Zo hm9 happ) ?_;have hsz9:w.heap.size<=a2.heap.size:=K0.size;rintro r9 ap ⟨Z9,pl9,s9,hS9,hm9_,hK9,hcs9⟩;replace K0:=K0.trans hK9 (λx hlt hx=>(λq_ h_ _=>h_) x hx hlt);refine jG ?_;refine Ai.fin0 func14 rfl ?_;replace hL:=hL.keep hK9 hZG;replace a0:=a0.keep hK9 a1;exact⟨_,rfl,Z9,pl9,s9,hS9,λq_ h_=>(hm9_ q_ h_).imp id (λy_=>Aaa hsz9 y_),K0,hcs9⟩
 intro hc15;refine kK ?_ ?_
 ·intro hc15;refine Ai.drawS [] [0,1,1002,3,1004,2005,2006] ?_;intro aq a5;replace a0:=a0.ext a5;refine kF (jb a0 Jn) ?_;replace hR:=hR.ext a5;refine jU rfl<|jC (VJ v s _ hR hok.ok) ?_;rintro _ ag ⟨ar,rfl,ab,au,ac,a6⟩;replace hS:=hS.ext a5;have ah:=Ag ac hS.oL;clear ac;replace a0:=a0.ext a6;refine jG ?_;replace hL:=(hL.ext a5).ext a6;replace hS:=hS.ext a6;refine jU rfl<|jC (iE hS hL Zo ab.r ⟨hok.ok,hok.ent,ab.ent.le_cap⟩ (λq_ h_=>ah q_ (cart_d q_ h_)) happ) ?_;replace K0:=(K0.ext a5).ext a6;have hsz9:w.heap.size<=ag.heap.size:=K0.size;rintro r9 av ⟨Z9,pl9,s9,hS9,hm9_,hK9,hcs9⟩;replace K0:=K0.trans hK9 (λx hlt hx=>(λq_ h_ _=>h_) x hx hlt);replace a0:=a0.keep hK9 a1;refine jG ?_;refine Ai.fin0 func14 rfl ?_;replace hR:=hR.ext a6;replace hL:=hL.keep hK9 hZG;exact⟨_,rfl,Z9,pl9,s9,hS9,λq_ h_=>(hm9_ q_ h_).imp id (λy_=>Aaa hsz9 y_),K0,hcs9⟩
 intro hc15;refine kK ?_ ?_
 ·intro hc25;refine jG ?_;refine kS (Yq hS hG hL happ) ?_;have hsz9:w.heap.size<=a2.heap.size:=K0.size;rintro r9 aw ⟨Z9,pl9,s9,hS9,hm9_,hK9,hcs9⟩;replace K0:=K0.trans hK9 (λx hlt hx=>(λq_ h_ _=>h_) x hx hlt);refine jG ?_;refine Ai.fin0 func14 rfl ?_;replace hL:=hL.keep hK9 hZG;replace a0:=a0.keep hK9 a1;exact⟨_,rfl,Z9,pl9,s9,hS9,λq_ h_=>(hm9_ q_ h_).imp id (λy_=>Aaa hsz9 y_),K0,hcs9⟩
 intro hc25;refine kK ?_ ?_
 ·intro hc31;refine jG ?_;refine jV (AO (cells:=#[.int .i64 n,.string key]) Zk) ?_;refine kS (Yr (x:=⟨n,key⟩) hS hL (by show key.size<=_;omega) happ) ?_;have hsz9:w.heap.size<=a2.heap.size:=K0.size;rintro r9 ax ⟨Z9,pl9,s9,hS9,hm9_,hK9,hcs9⟩;replace K0:=K0.trans hK9 (λx hlt hx=>(λq_ h_ _=>h_) x hx hlt);refine jG ?_;refine Ai.fin0 func14 rfl ?_;replace hL:=hL.keep hK9 hZG;replace a0:=a0.keep hK9 a1;exact⟨_,rfl,Z9,pl9,s9,hS9,λq_ h_=>(hm9_ q_ h_).imp id (λy_=>Aaa hsz9 y_),K0,hcs9⟩
 intro hc31;refine kK ?_ ?_
 ·intro hc40;refine jG ?_;refine jV (AO (cells:=#[.int .i64 n,.string key]) Zk) ?_;refine kS (Sh (x:=⟨n,key⟩) hS hG hL happ) ?_;have hsz9:w.heap.size<=a2.heap.size:=K0.size;rintro r9 ay ⟨Z9,pl9,s9,hS9,hm9_,hK9,hcs9⟩;replace K0:=K0.trans hK9 (λx hlt hx=>(λq_ h_ _=>h_) x hx hlt);refine jG ?_;refine Ai.fin0 func14 rfl ?_;replace hL:=hL.keep hK9 hZG;replace a0:=a0.keep hK9 a1;exact⟨_,rfl,Z9,pl9,s9,hS9,λq_ h_=>(hm9_ q_ h_).imp id (λy_=>Aaa hsz9 y_),K0,hcs9⟩
 intro hc40;refine jG ?_;refine kS (iF hS hL Zo hm9 happ) ?_;have hsz9:w.heap.size<=a2.heap.size:=K0.size;rintro r9 az ⟨Z9,pl9,s9,hS9,hm9_,hK9,hcs9⟩;replace K0:=K0.trans hK9 (λx hlt hx=>(λq_ h_ _=>h_) x hx hlt);refine jG ?_;refine Ai.fin0 func14 rfl ?_;exact⟨_,rfl,Z9,pl9,s9,hS9,λq_ h_=>(hm9_ q_ h_).imp id (λy_=>Aaa hsz9 y_),K0,hcs9⟩
end Go.Proofs.YtjkaicjmfgekjaaGreatDoor
namespace Go.Proofs.YtjkaicjmfgekjaaGreatDoor
open Go.Proofs.Tryz
attribute [local irreducible] RD RS AB RL RA RT CB Ai AD DP Cx BI By Ca B6 DJ Cf itemsN BZ AQ Bl BL Gr AK A2 At Ar A7 Aw A6 EG AL AN Cv setM Au Ap
def GQ.disk {w:World}{b d:Nat}{Z:Nat->Prop}{pl:List PF}{s:KF}(h:GQ w b d Z pl s):∃F:Nat->Prop,AJ w d F 4194304 pl/\(∀q,F q->Z q)/\∀q,F q->7<=q:=by
 obtain⟨lg,m1,m2,m3,F,st,ts,ks,hs,rfl,H,-⟩:=h;exact⟨F,H.disk,λq hq=> .inl (.inl hq),λq hq=>H.ge q (.inl hq)⟩
end Go.Proofs.YtjkaicjmfgekjaaGreatDoor
