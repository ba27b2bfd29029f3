/-
  Mr, Ms, Mt, Mu, Mv, Mw, Mx
-/
import Derived.Test.YtjkaicjmfgekjaaGreatDoorPkMp
set_option linter.all false
set_option maxRecDepth 100000
set_option maxHeartbeats 4000000
namespace Go.Proofs.YtjkaicjmfgekjaaGreatDoor
open Go.Proofs.Tryz
attribute [local irreducible] RD RS AA RL RA RT Cz Ai
open Go.Shelf
def keysLC_ren :Go.Shelf.Ren:=⟨fun|7=>107|10=>168|n=>n,fun|23=>90|26=>9|3=>33|28=>178|0=>0|27=>177|33=>37|4=>4|n=>n,fun|n=>n⟩
theorem keysLC :Go.Proofs.SlLaysZ.n7 prog keysLC_ren:={
 mixed:=by kernel_rfl
 f7:=⟨Tryz.f107.name,by decide,func107.trans (congrArg some Zk)⟩
 f10:=⟨Tryz.f168.name,by decide,func168.trans (congrArg some Zk)⟩
 t0:=underlying0
 a0:=Tryz.isAgg0
 z0:=Tryz.sizeOf0
 v0:=Tryz.zeroValue0
 t4:=underlying4
 a4:=Tryz.isAgg4
 z4:=Tryz.sizeOf4
 v4:=Tryz.zeroValue4
 t23:=underlying90
 a23:=Tryz.isAgg90
 z23:=Tryz.sizeOf90
 v23:=Tryz.zeroValue90
 t26:=underlying9
 a26:=Tryz.isAgg9
 z26:=Tryz.sizeOf9
 v26:=Tryz.zeroValue9
 t27:=underlying177
 a27:=Tryz.isAgg177
 z27:=Tryz.sizeOf177
 v27:=Tryz.zeroValue177
 t28:=underlying178
 a28:=Tryz.isAgg178
 z28:=Tryz.sizeOf178
 v28:=Tryz.zeroValue178
 t33:=underlying37
 a33:=Tryz.isAgg37
 z33:=Tryz.sizeOf37
 v33:=Tryz.zeroValue37}
open Go.RowKit Go.Maps Go.Sort
theorem Y9 (mb:Option Nat)(W:World):CallsIn Fence.wide 5 prog 107 #[.map mb] W fun e w'=>e= .returned (.func (.func 168) #[] #[jp W.heap.size])∧w'=W.alloc (.cells #[.map mb] 90):=
 AnyZ.keys_in keysLC Fence.wide 5 trivial rfl mb W
theorem Vx {H:Type}(b nn:Nat)(D0:DataW H)(R:Value->Option (DataW H×List MemPlace))(w:World)(hown:w.ownsMap prog 9 R b nn D0)(hmax:Maps.size D0<=maxLen)(hbytes:Maps.size D0*16<=140737488355328):
  CallsIn Fence.wide 5 prog 106 #[.func (.func 168) #[] #[jp w.heap.size]] (w.alloc (.cells #[.map (some b)] 90)) fun e w'=>∃(v:Value) (ss:List (List UInt8)),e= .returned v∧ss.Perm (strKeys D0)∧
   w'.ownsRow (w.alloc (.cells #[.map (some b)] 90)).heap.size 9 1 v ss.length ((ss.mergeSort (fun x y=>decide (x<=y))).map encStr)∧(v= .slice none 0 0↔ss=[])∧RowKit.Below (w.alloc (.cells #[.map (some b)] 90)).heap.size (w.alloc (.cells #[.map (some b)] 90)) w':=by
 have hbl:=hown.lt
 have hseq:SeqGives Fence.wide 2 prog 168 #[jp w.heap.size] encStr (fun ss=>ss.Perm (strKeys D0)) (Maps.size D0) (w.alloc (.cells #[.map (some b)] 90)):=
  AnyZ.keys_gives (ρ:=keysLC_ren) {keysLC with} Fence.wide _ trivial rfl Zo w.heap.size b nn D0 _ Zs Zs (by
   obtain⟨es,clock,hb,Ft,hs,hD⟩:=hown
   exact⟨es,clock,(Below.heap_alloc _ _ b hbl).trans hb,Ft,hs,hD⟩)
 exact AnyZ.sorted_in sortedL Fence.wide 5 trivial trivial trivial trivial rfl Zo (TW _) (Du func167 rfl Zk) 168 #[jp w.heap.size] trivial (Du func168 rfl Zk) _ _ hmax hbytes _ hseq
theorem Zb (m:Nat)(w:World):Calls prog 107 #[.map (some m)] w (AN fun v w'=>v= .func (.func 168) #[] #[jp w.heap.size]∧w'=w.alloc (.cells #[.map (some m)] 90)):=
 (callsIn_wide.1 (Y9 (some m) w)).mono fun e w' h=>⟨_,h.1,rfl,h.2⟩
theorem Vy {ps:List (ByteArray×Value)}(m:Nat)(w:World)(h:At w m ps)(hk:∀p∈ps,p.1.size<=4294967295)(hl:ps.length<=4294967295):
  Calls prog 106 #[.func (.func 168) #[] #[jp w.heap.size]] (w.alloc (.cells #[.map (some m)] 90)) (AN fun v w'=>∃a c,v= .slice a (BG (ps.map (·.1))).length c∧Af w' 9 a c (BG (ps.map (·.1)))∧
   (∀q,own a q->(w.alloc (.cells #[.map (some m)] 90)).heap.size<=q)∧Ap (w.alloc (.cells #[.map (some m)] 90)) w'):=by
 obtain⟨D,h1,h2,h3⟩:=Kv h (fun p hp=>by have:=hk p hp;simp only[maxLen];omega) (by simp only[maxLen];omega)
 refine(callsIn_wide.1 (Vx m _ D _ w h1 (by rw[h3];simp only[maxLen];omega) (by rw[h3];omega))).mono fun e w' he=> ?_
 obtain⟨v,ss,rfl,hS,hrow,-,hb⟩:=he
 have e1:(ss.mergeSort leB).map encStr=AM (BG (ps.map (·.1))):=by
  rw[mergeSort_of_perm (hS.trans h2),BG,NT,Aat];rfl
 have e2:ss.length=(BG (ps.map (·.1))).length:=by rw[hS.length_eq,h2.length_eq,Cf.length_eq];simp
 obtain⟨a,c,rfl,h4,h5⟩:=Jm (xs:=BG (ps.map (·.1))) (by rw[<-e1];exact hrow) e2
 exact⟨_,rfl,a,c,rfl,h4,h5,F5 hb⟩
end Go.Proofs.YtjkaicjmfgekjaaGreatDoor
namespace Go.Proofs.YtjkaicjmfgekjaaGreatDoor
open Go.Proofs.Tryz
attribute [local irreducible] RD RS AA RL RA RT Cz Ai AC DQ Cp BH Bz B4 Cb D4 Cj itemsN BW AO Br BK Gr AP A4 Ar Ck As A1 Ay A5 EM AW AK Cy setM Ax Ao encK X
theorem Xj (b lg m1 m2 m3:Nat)(st:Int)(ps:List (ByteArray×Value))(w:World)(hb:AB w b [.int .i32 0,.int .u32 0,jp lg,.int .i64 st,.map (some m1),.map (some m2),.map (some m3)] 94)(hM1:At w m1 ps)(n2:b≠m1)(hks:∀p∈ps,p.1.size<=4294967295)(hpl:ps.length<=4294967295):
  Calls prog 51 #[jp b] w (AN (fun r w'=>AB w' b [.int .i32 0,.int .u32 0,jp lg,.int .i64 st,.map (some m1),.map (some m2),.map (some m3)] 94∧Ad (one b) w w'∧∃a' c',r= .slice a' (BG (ps.map (·.1))).length c'∧Af w' 9 a' c' (BG (ps.map (·.1)))∧(∀q,own a' q->w.heap.size<=q))):=by
 refine Ac (n:=15) func51 rfl rfl rfl ?_;refine jG ?_;refine jR<|jC (Bv _ _ _ _ _ _ _ hb) ?_;rintro _ a0 ⟨rfl,a3,a4⟩;have K0:=(Ad.refl (one b) w).tf a4 rfl;replace hb:=a3;clear a3;refine jV (Bn (b:=true) rfl) ?_;refine jG ?_;refine Ai.condF rfl ?_;refine jG ?_;refine RL.defer (vals:=[jp b]) rfl ?_;refine jG ?_;refine jR<|jC (Zb m1 _) ?_;rintro _ _ ⟨rfl,rfl⟩;replace hM1:=hM1.kO a4 (Zx (fun e_=>n2 e_));have hM0:=hM1;have a5:Ap a0 (a0.alloc (.cells #[.map (some m1)] 90)):=Ap.push _ _;refine jR<|jC (Vy m1 a0 hM0 hks Zo) ?_;rintro _ a6 ⟨aa,ab,rfl,a1,a2,a7⟩;replace hb:=hb.ext a5;have ac:=Aw a2 hb.lt;replace K0:=K0.ext a5;have ad:=Bd K0.size a2;clear a2;refine jG ?_;replace hb:=hb.ext a7;refine Ai.retU muLib func51 rfl (fun _=>Bq rfl rfl) hb.cellH (hb.thawH 0) ?_;obtain⟨a8,hwU_⟩:∃w_,w_=a6.setCell ⟨b,0,none⟩ (.int .i32 0):=⟨_,rfl⟩;rw[<-hwU_];have hbU_:AB a8 b [.int .i32 0,.int .u32 0,jp lg,.int .i64 st,.map (some m1),.map (some m2),.map (some m3)] 94:=hwU_▸hb.setH;have a9:Ad (one b) a6 a8:=hwU_▸AJ _ _ _ _;replace K0:=K0.ext a7;replace K0:=K0.tf a9 rfl;replace hb:=hbU_;replace a1:=a1.kO a9 (Aa ac);exact⟨_,rfl,hb,K0,aa,ab,rfl,a1,ad⟩
section
structure IE (s:KF)(n:Nat):Prop where
 c:∃l:List ByteArray,l.length<=n∧∀key,s.c key≠none->key∈l
 h:∃l:List AH,l.length<=n∧∀x,s.h x->x∈l
 m:∀key,(s.m key).length<=n
 k:∃l:List ByteArray,l.length<=n∧∀key,s.m key≠ []->key∈l
theorem few0 :IE kf0 0:=⟨⟨[],Aac _,fun _ h=>absurd rfl h⟩,⟨[],Aac _,fun _ h=>h.elim⟩,fun _=>Aac _,⟨[],Aac _,fun _ h=>absurd rfl h⟩⟩
theorem IE.mono {s:KF}{n m:Nat}(h:IE s n)(hm:n<=m):IE s m:=by
 obtain⟨⟨l1,a1,b1⟩,⟨l2,a2,b2⟩,h3,⟨l4,a4,b4⟩⟩:=h
 exact⟨⟨l1,by omega,b1⟩,⟨l2,by omega,b2⟩,fun k=>Aaa (h3 k) hm,⟨l4,by omega,b4⟩⟩
theorem IE.app {s : KF} {n : Nat} (r : Dt) (h : IE s n) : IE (EL s r) (n + 1) := by
  obtain ⟨⟨l1, a1, b1⟩, ⟨l2, a2, b2⟩, h3, ⟨l4, a4, b4⟩⟩ := h
  have x1 : ∃ l : List ByteArray, l.length <= n + 1 ∧ ∀ key, s.c key ≠ none -> key ∈ l := ⟨l1, by omega, b1⟩
  have x2 : ∃ l : List AH, l.length <= n + 1 ∧ ∀ x, s.h x -> x ∈ l := ⟨l2, by omega, b2⟩
  have x3 : ∀ key, (s.m key).length <= n + 1 := fun k => Nat.le_succ_of_le (h3 k)
  have x4 : ∃ l : List ByteArray, l.length <= n + 1 ∧ ∀ key, s.m key ≠ [] -> key ∈ l := ⟨l4, by omega, b4⟩
  have y1 : ∀ (key : ByteArray) (x : Option MV), ∃ l : List ByteArray, l.length <= n + 1 ∧ ∀ k, GO s.c key x k ≠ none -> k ∈ l := fun key x => ⟨key :: l1, by simp; omega, fun k hk => by
    by_cases e : k = key
    · rw [e]; exact AaU
    · rw [Ei e] at hk; exact AaB _ (b1 k hk)⟩
  cases r with
  | o _ => exact ⟨x1, x2, x3, x4⟩
  | j key v => exact ⟨y1 key _, x2, x3, x4⟩
  | d key => exact ⟨y1 key _, x2, x3, x4⟩
  | h x => exact ⟨x1, ⟨x :: l2, by simp; omega, fun y (hy : y = x ∨ s.h y) => hy.elim (fun e => by rw [e]; exact AaU) fun e => AaB _ (b2 y e)⟩, x3, x4⟩
  | u x => exact ⟨x1, ⟨l2, by omega, fun y hy => b2 y hy.2⟩, x3, x4⟩
  | r key m =>
    refine ⟨y1 key _, x2, fun k => ?_, ⟨key :: l4, by simp; omega, fun k hk => ?_⟩⟩
    · show (GO s.m key (setM (s.m key) (Ab.d m)) k).length <= n + 1
      by_cases e : k = key
      · rw [e, E4]; exact Aaa (Iu _ _) (Nat.succ_le_succ (h3 key))
      · rw [Ei e]; exact x3 k
    · by_cases e : k = key
      · rw [e]; exact AaU
      · have hk : GO s.m key (setM (s.m key) (Ab.d m)) k ≠ [] := hk
        rw [Ei e] at hk; exact AaB _ (b4 k hk)
theorem IF {α : Type} [DecidableEq α] : ∀ {l k : List α}, l.Nodup -> (∀ x ∈ l, x ∈ k) -> l.length <= k.length
  | [], _, _, _ => Aal _
  | x :: l, k, hn, h => by
    rw [AaR] at hn
    have hx := h x AaU
    have := IF (l := l) (k := k.erase x) hn.2 fun y hy => (List.mem_erase_of_ne (fun (e : y = x) => hn.1 (by rw [<- e]; exact hy))).2 (h y (AaB _ hy))
    rw [List.length_erase_of_mem hx] at this
    have := List.length_pos_of_mem hx
    rw [Aaj]; omega
variable {w w':World}{b d lg m1 m2 m3:Nat}{F F' Z S:Nat->Prop}{st:Int}{pl pl':List PF}{ts ts':List Kc}{ks ks':List Km}{hs hs':List AH}{s:KF}{key:ByteArray}
def Lm (s:KF)(l:List ByteArray):Prop:=l.Nodup∧∀key,key∈l↔s.c key≠none
theorem Td (H : H1 w b d lg m1 m2 m3 F pl st ts ks hs) (T : Dl s st ts ks hs) : Lm s ((ts.map Kc.kv).map (·.1)) := by
  refine ⟨H.mc.nodup, fun key => ?_⟩
  rw [Aat, Aaf]
  constructor
  · rintro ⟨t, ht, rfl⟩ e
    have := (T.c t.key t.v).2 ⟨t, ht, rfl, rfl⟩
    rw [show s.c t.key = none from e] at this; cases this
  · intro h
    cases e : s.c key with
    | none => exact absurd e h
    | some v =>
      obtain ⟨t, ht, hk, -⟩ := (T.c key v).1 e
      exact ⟨t, ht, hk⟩
theorem gp {n:Nat}(h:GN w b d Z pl s)(hL:A2 w)(hG:FK s)(hf:IE s n)(hn:n<=1000):
  Calls prog 51 #[jp b] w (AN fun r w'=>GN w' b d Z pl s∧Ad Z w w'∧∃l a' c',Lm s l∧r= .slice a' (BG l).length c'∧Af w' 9 a' c' (BG l)∧(∀q,own a' q->w.heap.size<=q)):=by
 obtain⟨lg,m1,m2,m3,F,st,ts,ks,hs,rfl,H,T⟩:=h
 have hk:=Td H T
 obtain⟨l0,hl0,hl1⟩:=hf.c
 have hlen:(ts.map Kc.kv).length<=1000:=by
  have:=IF (l:=(ts.map Kc.kv).map (·.1)) (k:=l0) hk.1 fun x hx=>hl1 x ((hk.2 x).1 hx)
  rw[Aad]at this;omega
 have hsz:∀p∈ts.map Kc.kv,p.1.size<=4294967295:=fun p hp=>by
  have h1:=(hk.2 p.1).1 (List.mem_map.2 ⟨p,hp,rfl⟩)
  cases e:s.c p.1 with
  |none=>exact absurd e h1
  |some v=>exact Aaa (Bt (hG.c _ v e)) Zd
 refine(Xj b lg m1 m2 m3 st _ w H.blk H.mc H.ne.2.1 hsz Zo).mono fun e w' hh=> ?_
 obtain⟨v,rfl,hb,K,a',c',rfl,h1,h2⟩:=hh
 exact⟨_,rfl,⟨lg,m1,m2,m3,F,st,ts,ks,hs,rfl,H.same hL.size K hb,T⟩,K.mono fun q _ hq=>one_set9 q hq,_,a',c',hk,rfl,h1,h2⟩
end
end Go.Proofs.YtjkaicjmfgekjaaGreatDoor
namespace Go.Proofs.YtjkaicjmfgekjaaGreatDoor
open Go.Proofs.Tryz
attribute [local irreducible] RD RS AA RL RA RT Cz Ai AC DQ Cp BH Bz B4 Cb D4 Cj itemsN BW AO Br BK Gr AP A4 Ar Ck As A1 Ay A5 EM AW AK Cy setM Ax Ao
section
theorem Jx {s:KF}{rs ss:List Dt}:FV s (rs++ss)=FV (FV s rs) ss:=Abf
theorem OkRun.append {rs ss:List Dt}:∀{s:KF},OkRun s rs->OkRun (FV s rs) ss->OkRun s (rs++ss):=by
 induction rs with
 |nil=>exact fun _ h=>h
 |cons r rs ih=>exact fun h k=>⟨h.1,ih h.2 k⟩
theorem OkRun.take {rs : List Dt} : ∀ {s : KF} (i : Nat), OkRun s rs -> OkRun s (rs.take i) := by
  induction rs with
  | nil => intro s i h; rw [List.take_nil]; exact h
  | cons r rs ih =>
    intro s i h
    cases i with
    | zero => exact trivial
    | succ i => exact ⟨h.1, ih i h.2⟩
theorem OkRun.good {rs:List Dt}:∀{s:KF},FK s->OkRun s rs->FK (FV s rs):=by
 induction rs with
 |nil=>exact fun h _=>h
 |cons r rs ih=>exact fun h k=>ih (h.app k.1) k.2
theorem RC {rs:List Dt}:∀{s:KF} {n:Nat},IE s n->IE (FV s rs) (n+rs.length):=by
 induction rs with
 |nil=>exact fun h=>h
 |cons r rs ih=>exact fun{s n} h=>(ih (h.app r)).mono (by rw[Aaj];omega)
theorem good0 :FK kf0:=⟨(fun _ _ h=>nomatch h),(fun _ (h:False)=>h.elim)⟩
theorem Fw {s : KF} {r : Dt} (h : Ly s r) : 0 < (encK r).length ∧ (encK r).length <= 9100 := by
  have h1 : ∀ k : Nat, ([UInt8.ofNat k] : List UInt8).length = 1 := fun _ => rfl
  cases r with
  | o n =>
    have h : n < 4611686018427387904 := h
    have hv := A6 (n := n) Zo
    show 0 < ([UInt8.ofNat 1] ++ Aq n).length ∧ ([UInt8.ofNat 1] ++ Aq n).length <= 9100
    rw [Aab, h1]; omega
  | j key v =>
    have ht := Cu (Bt h.1)
    have he := Hb h.2.2.1 h.2.1
    show 0 < (DT key v).length ∧ (DT key v).length <= 9100
    unfold DT
    simp only [Aab, h1]; omega
  | d key =>
    have ht := Cu (Bt h)
    show 0 < ([UInt8.ofNat 3] ++ AW key).length ∧ ([UInt8.ofNat 3] ++ AW key).length <= 9100
    rw [Aab, h1]; omega
  | h x =>
    have ht := Cu (Bt h.2)
    have hv := A6 (n := x.owner.toNat) (by have := h.1; omega)
    show 0 < (([UInt8.ofNat 4] ++ Aq x.owner.toNat) ++ AW x.key).length ∧ (([UInt8.ofNat 4] ++ Aq x.owner.toNat) ++ AW x.key).length <= 9100
    simp only [Aab, h1]; omega
  | u x =>
    have ht := Cu (Bt h.2)
    have hv := A6 (n := x.owner.toNat) (by have := h.1; omega)
    show 0 < (([UInt8.ofNat 5] ++ Aq x.owner.toNat) ++ AW x.key).length ∧ (([UInt8.ofNat 5] ++ Aq x.owner.toNat) ++ AW x.key).length <= 9100
    simp only [Aab, h1]; omega
  | r key m =>
    have ht := Cu (Bt h.1)
    have hm := h.2.1
    simp only [AC, Ab.d] at hm
    have h2 := A6 (n := m.node.toNat) Zo
    have h3 := A6 (n := m.life.toNat) Zo
    have h4 := A6 (n := m.count.toNat) Zo
    show 0 < (((([UInt8.ofNat 6] ++ AW key) ++ Aq m.node.toNat) ++ Aq m.life.toNat) ++ Aq m.count.toNat).length ∧ (((([UInt8.ofNat 6] ++ AW key) ++ Aq m.node.toNat) ++ Aq m.life.toNat) ++ Aq m.count.toNat).length <= 9100
    simp only [Aab, h1]; omega
theorem OkRun.lens {rs : List Dt} : ∀ {s : KF}, OkRun s rs -> ∀ p ∈ rs.map encK, 0 < p.length ∧ p.length <= 9100 := by
  induction rs with
  | nil => intro s _ p hp; cases hp
  | cons r rs ih =>
    intro s h p hp
    rcases List.mem_cons.1 hp with rfl | hp
    · exact Fw h.1
    · exact ih h.2 p hp
structure OV (syn:Nat)(rs:List Dt)(pl:List PF)(s:KF):Prop where
 run:OkRun kf0 rs
 st:s=FV kf0 rs
 log:HD syn (rs.map encK) pl
variable {syn :Nat}{rs:List Dt}{pl:List PF}{s:KF}
theorem OV.happ (h:OV syn rs pl s)(hl:rs.length<=45):∀r,Ly s r->(Ay 4194304 pl (encK r)).1=0:=fun r hr=>
 (h.log.append (Fw hr).1 (Fw hr).2 (by rw[Aad];omega) fun p hp=>(h.run.lens p hp).2).1
theorem OV.app (h:OV syn rs pl s)(hl:rs.length<=45){r:Dt}(hr:Ly s r):OV syn (rs++[r]) (Ay 4194304 pl (encK r)).2 (EL s r):=
 ⟨h.run.append (by rw[<-h.st];exact⟨hr,trivial⟩),by rw[Jx,<-h.st];rfl,by rw[Aam];exact(h.log.append (Fw hr).1 (Fw hr).2 (by rw[Aad];omega) fun p hp=>(h.run.lens p hp).2).2⟩
theorem OV.sync (h:OV syn rs pl s)(hl:rs.length<=45):OV rs.length rs (Fi pl) s:=⟨h.run,h.st,by have:=h.log.sync (by rw[Aad];omega);rwa[Aad]at this⟩
theorem OV.good (h:OV syn rs pl s):FK s:=h.st▸h.run.good good0
theorem OV.few (h:OV syn rs pl s):IE s rs.length:=by have:=RC (rs:=rs) few0;rw[Aaq]at this;rw[h.st];exact this
theorem led0 :OV 0 [] [] kf0:=⟨trivial,rfl,logAt_nil⟩
theorem OV.crashed (h:OV syn rs pl s)(hl:rs.length<=45)(keep:Int):∃j,syn<=j∧j<=rs.length∧(A1 4194304 (pl.map (Gd keep))).1=0∧(A1 4194304 (pl.map (Gd keep))).2.1=(rs.take j).map encK∧EU (A1 4194304 (pl.map (Gd keep))).2.2 ((rs.take j).map encK):=by
 obtain⟨j,h1,h2,h3,h4,h5⟩:=h.log.crashed (by rw[Aad];omega) (fun p hp=>⟨(fun e=>by have:=(h.run.lens p hp).1;rw[e]at this;cases this),(h.run.lens p hp).2⟩) keep
 rw[Aad]at h2
 rw[<-List.map_take]at h4 h5
 exact⟨j,h1,h2,h3,h4,h5⟩
end
end Go.Proofs.YtjkaicjmfgekjaaGreatDoor
namespace Go.Proofs.YtjkaicjmfgekjaaGreatDoor
open Go.Proofs.Tryz
attribute [local irreducible] RD RS AA RL RA RT Cz Ai AC DQ Cp BH Bz B4 Cb D4 Cj itemsN BW AO Br BK Gr AP A4 Ar As A1
section
variable {pl :List PF}{recs:List (List UInt8)}{b:List UInt8}
theorem Ln {pl : List PF} : ∀ {ns : List Int} {R : List (List (List UInt8))}, Whole pl ns R -> (ns.map fun k => (AY pl (Am k)).length).sum = CJ R.flatten
  | [], [], _ => rfl
  | [], _ :: _, h => h.elim
  | _ :: _, [], h => h.elim
  | n :: ns, rs :: R, h => by
    rw [Aae, Aa1, Ln h.2.2, h.1, Aci]
    unfold CJ
    rw [Ach, Aab]
theorem Qc (hn:(pl.map (·.name)).Nodup):AX pl=((pl.map (·.name)).map fun s=>(AY pl s).length).sum:=by
 rw[AX,Aat]
 congr 1
 refine AaF fun f hf=> ?_
 simp only[Function.comp]
 rw[KK hn hf]
theorem EU.used (h:EU pl recs):AX pl=CJ recs∧pl.length<=60∧Bj pl<=60:=by
 obtain⟨n,R,h1,h2,h3,rfl⟩:=h
 have hn:=h1.nodup Zd Zo
 refine⟨?_,?_,?_⟩
 ·rw[Qc hn,h1,Aat];exact Ln h3
 ·have:=congrArg List.length h1
  rw[Aad,Aad,Ur]at this;omega
 ·by_cases c:Bj pl=0
  ·omega
  ·have:=G4 c
   rw[h1.segs Zd Zo,In]at this;omega
theorem Jy (pl:List PF)(n:ByteArray):(Cd pl n).map (·.name)=pl.map (·.name)∧AX (Cd pl n)=AX pl∧(Cd pl n).length=pl.length:=by
 refine⟨?_,?_,by rw[Cd,DF,Aad]⟩
 ·rw[Cd,DF,Aat]
  refine AaF fun f _=> ?_
  simp only[Function.comp];split<;>rfl
 ·rw[AX,AX,Cd,DF,Aat]
  congr 1
  refine AaF fun f _=> ?_
  simp only[Function.comp];split<;>rfl
theorem EU.append (h:EU pl recs)(h0:0<b.length)(h1:b.length<=9100)(hu:CJ recs+9113<=4194304):(Ay 4194304 pl b).1=0:=by
 obtain⟨e1,e2,e3⟩:=h.used
 have hl:=QY pl
 have hm:Ck b=0:=by rw[Ck,if_neg (fun e=>by rw[e]at h0;cases h0),if_neg Zo]
 have hf:=Eu b Zo
 have key:∀(q:List PF) (k:Int),q.length<=60->AX q=AX pl->1<=k->k<=70->De 4194304 q (Am k) (As b)=0:=fun q k x1 x2 x3 x4=>by
  rw[De,if_pos (Dp Zo Zo),if_neg]
  rintro(⟨-,h9⟩|h9)
  ·omega
  ·rw[x2,e1]at h9;omega
 rw[Ay,if_neg (by rw[hm];decide)]
 split
 ·rw[if_neg Zo]
  exact key _ _ (by rw[(Jy _ _).2.2];exact e2) (Jy _ _).2.1 Zo Zo
 ·rw[if_neg Zo]
  exact key _ _ e2 rfl Zo Zo
end
end Go.Proofs.YtjkaicjmfgekjaaGreatDoor
namespace Go.Proofs.YtjkaicjmfgekjaaGreatDoor
open Go.Proofs.Tryz
attribute [local irreducible] RD RS AA RL RA RT Cz Ai AC DQ Cp BH Bz B4 Cb D4 Cj itemsN BW AO Br BK Gr AP A4 Ar Ck As A1 Ay A5 EM AW AK Cy setM Ax Ao
noncomputable def plB :List PF:=Fi (Ay 4194304 (A1 4194304 []).2.2 ([UInt8.ofNat 1]++Aq (0+1))).2
noncomputable def sB :KF:=EL (FV kf0 []) (.o (0+1))
theorem ledB :OV 1 [.o 1] plB sB∧sB.st=1:=by
 have h:=(led0.app (r:= .o 1) Zd (show(1:Nat)<4611686018427387904 by decide)).sync Zd
 refine⟨?_,rfl⟩
 have e:plB=Fi (Ay 4194304 [] (encK (.o 1))).2:=by unfold plB;rw[KI];rfl
 rw[e];exact h
theorem openB :(A1 4194304 []).1=0∧(A1 4194304 []).2.1=([]:List Dt).map encK∧(Ay 4194304 (A1 4194304 []).2.2 ([UInt8.ofNat 1]++Aq (0+1))).1=0:=by
 rw[KI]
 exact⟨rfl,rfl,led0.happ Zd (.o 1) (show(1:Nat)<4611686018427387904 by decide)⟩
theorem Zc (d:Nat)(F:Nat->Prop)(w:World)(hD:AG w d F 4194304 [])(hL:A2 w)(hFG:∀q,F q->7<=q):
  Calls prog 19 #[jp d] w (AN fun v w'=>∃b Z',v= .tuple #[jp b,.int .i64 0]∧GN w' b d Z' plB sB∧AL w F Z'∧Ad F w w'):=by
 unfold plB sB
 exact Ry d F [] [] 0 w hD hL hFG openB.1 openB.2.1 trivial rfl Zd Zd openB.2.2
attribute [irreducible] plB sB
attribute [local irreducible] X
theorem Vz (w:World)(hL:A2 w):
  Calls prog 6 #[] w (AN (fun v w'=>∃d b Z,v= .tuple #[jp d,jp b,.bool true]∧GN w' b d Z plB sB∧(∀q,Z q->w.heap.size<=q)∧Ap w w')):=by
 have hLs:=hL.size;refine Ac (n:=33) func6 rfl rfl rfl ?_;refine jG ?_;refine jR<|jC (Z3 4194304 _ Zd) ?_;rintro _ af ⟨a4,ac,rfl,ad,a0,a5⟩;have a1:∀q_,ac q_->7<=q_:=fun q_ h_=>Aaa hLs (Aaa (Aac _) (a0 q_ h_));have a6:=Bd (Aac _) a0;clear a0;have K0:=(a5:Ap w _);refine jG ?_;replace hL:=hL.ext a5;refine jR<|jC (Zc _ _ _ ad hL a1) ?_;rintro _ ag ⟨a7,a2,rfl,a3,a8,a9⟩;have aa:∀q_,a2 q_->w.heap.size<=q_:=a8.ge a6 K0.size;have ah:∀q_,a2 q_->7<=q_:=fun q_ h_=>(a8 q_ h_).elim (a1 q_) (fun h2_=>Aaa hLs (Aaa K0.size h2_));refine jG ?_;refine jV (BU rfl rfl rfl) ?_;refine jG ?_;refine jT<|jO (DN (EC underlying24 rfl rfl) rfl) ?_;refine jV (BU rfl rfl rfl) ?_;refine jG ?_;replace hL:=hL.keep a9 a1;refine jT<|jC (Rz a3 hL) ?_;rintro _ ai ⟨rfl,ab,ae⟩;replace a3:=ab;clear ab;refine jG ?_;refine jV (BU rfl rfl rfl) ?_;refine jG ?_;refine Ai.ret3 (v:=jp a4) (x:=jp a7) (y:= .bool (sB.st==1)) func6 rfl rfl rfl rfl ?_;replace K0:=(K0.new a9 a6).new ae aa;exact⟨_,rfl,a4,a7,a2,by rw[ledB.2];rfl,a3,aa,K0⟩
end Go.Proofs.YtjkaicjmfgekjaaGreatDoor
namespace Go.Proofs.YtjkaicjmfgekjaaGreatDoor
open Go.Proofs.Tryz
attribute [local irreducible] RD RS AA RL RA RT Cz Ai AC DQ Cp BH Bz B4 Cb D4 Cj itemsN BW AO Br BK Gr AP A4 Ar Ck As A1 Ay A5 EM AW AK Cy setM Ax Ao
theorem il (z:Int):∃k:Int,IntKind.i64.wrap ((IntKind.u64.wrap z).tmod 6)=k∧0<=k∧k<6:=by
 have h1:IntKind.u64.wrap z=z%18446744073709551616:=by simp[IntKind.wrap,IntKind.bits,IntKind.signed]
 rw[h1,Int.tmod_eq_emod_of_nonneg Zo]
 exact⟨_,J9 _ Zo Zo,by omega,by omega⟩
attribute [local irreducible] X
theorem VA (op n:Int)(key:ByteArray)(v:MV)(s:Ge)(m:Ab)(b d:Nat)(Z:Nat->Prop)(pl:List PF)(sk:KF)(w:World)(hS:GN w b d Z pl sk)(hL:A2 w)(hZG:∀q,Z q->7<=q)(hks:key.size<=4294967295)(hR:Bf w s v)(hok:Bl v s)(hap:∀q,BE s v q->¬Z q)(hG:FK sk)(hm9:∀k,(sk.m k).length<1000)(happ:∀r,Ly sk r->(Ay 4194304 pl (encK r)).1=0):
  Calls prog 14 #[jp b,.agg #[.int .i64 op,.int .i64 n,.string key,.slice s.ea v.ent.length s.ec,.slice s.ma v.mrk.length s.mc,.slice s.ca v.cl.length s.cc,.int .i64 m.node,.int .i64 m.life,.int .i64 m.count]] w (AN (fun _ w'=>Gn w b d Z pl sk w')):=by
 have hLs:=hL.size;obtain⟨k6,ek,hk0,hk6⟩:=il op;have hv:=hok.ok;have hv0:=hv;obtain⟨hv1,hv2,hv3,hv4,hv5,hv6⟩:=hv;refine Ac (n:=49) func14 rfl rfl rfl ?_;refine jG ?_;refine jR<|jB ?_;intro ad a2 a8 a0 a7;have a1:=An hS.oL a8;have:w.heap.size<=ad:=a8;clear a8;have K0:=(a7:Ap w _).to (S:=Z);refine jG ?_;refine jV (Fy rfl ⟨_,underlying3⟩ underlying106) ?_;refine jV (Xv rfl rfl Zd) ?_;refine jV (Az (c:=k6) (Fy rfl ⟨_,underlying106⟩ underlying3) ek) ?_;refine jG ?_;replace hS:=hS.ext a7;replace hR:=hR.ext a7;replace hL:=hL.ext a7;refine jF ?_ ?_
 ·intro hc15
  refine jG ?_;refine jF ?_ ?_
  ·intro hc15
   refine Ai.drawS [] [0,1,1002,3,1004,2005,2006] ?_;intro ai a3;replace a0:=a0.ext a3;refine jM (jb a0 Jn) ?_;refine jG ?_;replace hR:=hR.ext a3;refine jU rfl<|jC (Vd v s _ hR hok.ok) ?_;rintro _ ae ⟨aj,rfl,a9,ak,aa,a4⟩;replace hS:=hS.ext a3;have af:=Ah aa hS.oL;clear aa;replace a0:=a0.ext a4;refine jG ?_;replace hL:=(hL.ext a3).ext a4;replace hS:=hS.ext a4;refine jU rfl<|jC (gi hS hL Zo a9.r ⟨hok.ok,hok.ent,a9.ent.le_cap⟩ (fun q_ h_=>af q_ (cart_d q_ h_)) happ) ?_;replace K0:=(K0.ext a3).ext a4;have hsz9:w.heap.size<=ae.heap.size:=K0.size;rintro r9 al ⟨Z9,pl9,s9,hS9,hm9_,hK9,hcs9⟩;replace K0:=K0.trans hK9 (fun x hlt hx=>(fun q_ h_ _=>h_) x hx hlt);replace a0:=a0.keep hK9 a1;refine jG ?_;refine Ai.fin0 func14 rfl ?_;replace hR:=hR.ext a4;replace hL:=hL.keep hK9 hZG;exact⟨_,rfl,Z9,pl9,s9,hS9,fun q_ h_=>(hm9_ q_ h_).imp id (fun y_=>Aaa hsz9 y_),K0,hcs9⟩
  ·intro hc15
   refine jG ?_;refine jF ?_ ?_
   ·intro hc25
    refine jG ?_;refine jR<|jC (XT hS hG hL happ) ?_;have hsz9:w.heap.size<=a2.heap.size:=K0.size;rintro r9 am ⟨Z9,pl9,s9,hS9,hm9_,hK9,hcs9⟩;replace K0:=K0.trans hK9 (fun x hlt hx=>(fun q_ h_ _=>h_) x hx hlt);refine jG ?_;refine Ai.fin0 func14 rfl ?_;replace hL:=hL.keep hK9 hZG;replace a0:=a0.keep hK9 a1;exact⟨_,rfl,Z9,pl9,s9,hS9,fun q_ h_=>(hm9_ q_ h_).imp id (fun y_=>Aaa hsz9 y_),K0,hcs9⟩
   ·intro hc25
    refine jG ?_;refine jF ?_ ?_
    ·intro hc31
     refine jG ?_;refine jV (AI (cells:=#[.int .i64 n,.string key]) Zk) ?_;refine jR<|jC (XU (x:=⟨n,key⟩) hS hL (by show key.size<=_;omega) happ) ?_;have hsz9:w.heap.size<=a2.heap.size:=K0.size;rintro r9 an ⟨Z9,pl9,s9,hS9,hm9_,hK9,hcs9⟩;replace K0:=K0.trans hK9 (fun x hlt hx=>(fun q_ h_ _=>h_) x hx hlt);refine jG ?_;refine Ai.fin0 func14 rfl ?_;replace hL:=hL.keep hK9 hZG;replace a0:=a0.keep hK9 a1;exact⟨_,rfl,Z9,pl9,s9,hS9,fun q_ h_=>(hm9_ q_ h_).imp id (fun y_=>Aaa hsz9 y_),K0,hcs9⟩
    ·intro hc31
     refine jG ?_;refine jF ?_ ?_
     ·intro hc40
      refine jG ?_;refine jV (AI (cells:=#[.int .i64 n,.string key]) Zk) ?_;refine jR<|jC (Rx (x:=⟨n,key⟩) hS hG hL happ) ?_;have hsz9:w.heap.size<=a2.heap.size:=K0.size;rintro r9 ao ⟨Z9,pl9,s9,hS9,hm9_,hK9,hcs9⟩;replace K0:=K0.trans hK9 (fun x hlt hx=>(fun q_ h_ _=>h_) x hx hlt);refine jG ?_;refine Ai.fin0 func14 rfl ?_;replace hL:=hL.keep hK9 hZG;replace a0:=a0.keep hK9 a1;exact⟨_,rfl,Z9,pl9,s9,hS9,fun q_ h_=>(hm9_ q_ h_).imp id (fun y_=>Aaa hsz9 y_),K0,hcs9⟩
     ·intro hc40
      refine jG ?_;refine jR<|jC (gj hS hL Zo hm9 happ) ?_;have hsz9:w.heap.size<=a2.heap.size:=K0.size;rintro r9 ap ⟨Z9,pl9,s9,hS9,hm9_,hK9,hcs9⟩;replace K0:=K0.trans hK9 (fun x hlt hx=>(fun q_ h_ _=>h_) x hx hlt);refine jG ?_;refine Ai.fin0 func14 rfl ?_;replace hL:=hL.keep hK9 hZG;replace a0:=a0.keep hK9 a1;exact⟨_,rfl,Z9,pl9,s9,hS9,fun q_ h_=>(hm9_ q_ h_).imp id (fun y_=>Aaa hsz9 y_),K0,hcs9⟩
 ·intro hc15
  refine jG ?_;refine jF ?_ ?_
  ·intro hc15
   refine Ai.drawS [] [0,1,1002,3,1004,2005,2006] ?_;intro aq a5;replace a0:=a0.ext a5;refine jM (jb a0 Jn) ?_;refine jG ?_;replace hR:=hR.ext a5;refine jU rfl<|jC (Vd v s _ hR hok.ok) ?_;rintro _ ag ⟨ar,rfl,ab,au,ac,a6⟩;replace hS:=hS.ext a5;have ah:=Ah ac hS.oL;clear ac;replace a0:=a0.ext a6;refine jG ?_;replace hL:=(hL.ext a5).ext a6;replace hS:=hS.ext a6;refine jU rfl<|jC (gi hS hL Zo ab.r ⟨hok.ok,hok.ent,ab.ent.le_cap⟩ (fun q_ h_=>ah q_ (cart_d q_ h_)) happ) ?_;replace K0:=(K0.ext a5).ext a6;have hsz9:w.heap.size<=ag.heap.size:=K0.size;rintro r9 av ⟨Z9,pl9,s9,hS9,hm9_,hK9,hcs9⟩;replace K0:=K0.trans hK9 (fun x hlt hx=>(fun q_ h_ _=>h_) x hx hlt);replace a0:=a0.keep hK9 a1;refine jG ?_;refine Ai.fin0 func14 rfl ?_;replace hR:=hR.ext a6;replace hL:=hL.keep hK9 hZG;exact⟨_,rfl,Z9,pl9,s9,hS9,fun q_ h_=>(hm9_ q_ h_).imp id (fun y_=>Aaa hsz9 y_),K0,hcs9⟩
  ·intro hc15
   refine jG ?_;refine jF ?_ ?_
   ·intro hc25
    refine jG ?_;refine jR<|jC (XT hS hG hL happ) ?_;have hsz9:w.heap.size<=a2.heap.size:=K0.size;rintro r9 aw ⟨Z9,pl9,s9,hS9,hm9_,hK9,hcs9⟩;replace K0:=K0.trans hK9 (fun x hlt hx=>(fun q_ h_ _=>h_) x hx hlt);refine jG ?_;refine Ai.fin0 func14 rfl ?_;replace hL:=hL.keep hK9 hZG;replace a0:=a0.keep hK9 a1;exact⟨_,rfl,Z9,pl9,s9,hS9,fun q_ h_=>(hm9_ q_ h_).imp id (fun y_=>Aaa hsz9 y_),K0,hcs9⟩
   ·intro hc25
    refine jG ?_;refine jF ?_ ?_
    ·intro hc31
     refine jG ?_;refine jV (AI (cells:=#[.int .i64 n,.string key]) Zk) ?_;refine jR<|jC (XU (x:=⟨n,key⟩) hS hL (by show key.size<=_;omega) happ) ?_;have hsz9:w.heap.size<=a2.heap.size:=K0.size;rintro r9 ax ⟨Z9,pl9,s9,hS9,hm9_,hK9,hcs9⟩;replace K0:=K0.trans hK9 (fun x hlt hx=>(fun q_ h_ _=>h_) x hx hlt);refine jG ?_;refine Ai.fin0 func14 rfl ?_;replace hL:=hL.keep hK9 hZG;replace a0:=a0.keep hK9 a1;exact⟨_,rfl,Z9,pl9,s9,hS9,fun q_ h_=>(hm9_ q_ h_).imp id (fun y_=>Aaa hsz9 y_),K0,hcs9⟩
    ·intro hc31
     refine jG ?_;refine jF ?_ ?_
     ·intro hc40
      refine jG ?_;refine jV (AI (cells:=#[.int .i64 n,.string key]) Zk) ?_;refine jR<|jC (Rx (x:=⟨n,key⟩) hS hG hL happ) ?_;have hsz9:w.heap.size<=a2.heap.size:=K0.size;rintro r9 ay ⟨Z9,pl9,s9,hS9,hm9_,hK9,hcs9⟩;replace K0:=K0.trans hK9 (fun x hlt hx=>(fun q_ h_ _=>h_) x hx hlt);refine jG ?_;refine Ai.fin0 func14 rfl ?_;replace hL:=hL.keep hK9 hZG;replace a0:=a0.keep hK9 a1;exact⟨_,rfl,Z9,pl9,s9,hS9,fun q_ h_=>(hm9_ q_ h_).imp id (fun y_=>Aaa hsz9 y_),K0,hcs9⟩
     ·intro hc40
      refine jG ?_;refine jR<|jC (gj hS hL Zo hm9 happ) ?_;have hsz9:w.heap.size<=a2.heap.size:=K0.size;rintro r9 az ⟨Z9,pl9,s9,hS9,hm9_,hK9,hcs9⟩;replace K0:=K0.trans hK9 (fun x hlt hx=>(fun q_ h_ _=>h_) x hx hlt);refine jG ?_;refine Ai.fin0 func14 rfl ?_;exact⟨_,rfl,Z9,pl9,s9,hS9,fun q_ h_=>(hm9_ q_ h_).imp id (fun y_=>Aaa hsz9 y_),K0,hcs9⟩
end Go.Proofs.YtjkaicjmfgekjaaGreatDoor
namespace Go.Proofs.YtjkaicjmfgekjaaGreatDoor
open Go.Proofs.Tryz
attribute [local irreducible] RD RS AA RL RA RT Cz Ai AC DQ Cp BH Bz B4 Cb D4 Cj itemsN BW AO Br BK Gr AP A4 Ar As A1 Ay
def Di (pl:List PF)(keep:Int):List FB:=(A3 pl).map fun n=>⟨n,((MZ keep (CY pl n-Ec pl n):Nat):Int),⟨none,0,0⟩⟩
theorem Qd {pl:List PF}{keep:Int}{i:Nat}{n:ByteArray}(h:(A3 pl)[i]? =some n):(Di pl keep).take (i+1)=(Di pl keep).take i++[⟨n,((MZ keep (CY pl n-Ec pl n):Nat):Int),⟨none,0,0⟩⟩]:=by
 rw[List.take_add_one,Di,Aax,h];rfl
theorem H0 (pl:List PF)(keep:Int):(Di pl keep).length=(A3 pl).length:=Aad ..
theorem OW {room : Int} {pl : List PF} (h : BV room pl) (n : ByteArray) : Ec pl n <= CY pl n ∧ CY pl n <= 16777216 := by
  refine ⟨?_, N4 h n⟩
  rw [Ec, CY]
  cases hl : Ci pl n with
  | none => exact Aac _
  | some f =>
    have := h.sync f (Acc hl)
    exact this
theorem VB {room:Int}{pl:List PF}(h:BV room pl)(w:World)(keep:Int):FD w (Di pl keep) (FP pl keep):=by
 refine⟨by rw[Di,FP,Aad,Aad],fun i t p h1 h2=> ?_,fun p hp=> ?_⟩
 ·rw[Di,Aax,Abp]at h1
  rw[FP,Aax,Abp]at h2
  obtain⟨n,hn,rfl⟩:=h1
  obtain⟨m,hm,rfl⟩:=h2
  rw[hn]at hm
  cases hm
  exact⟨rfl,rfl,rfl,.inl rfl⟩
 ·rw[FP,Aaf]at hp
  obtain⟨n,hn,rfl⟩:=hp
  obtain⟨i,hi⟩:=Abn hn
  have h1:=IY h hi
  have h2:=OW h n
  have h3:=PC keep (CY pl n-Ec pl n)
  simp only[Aar]
  omega
theorem Xk (keep:Int)(a b:Nat)(h:b<=a)(h2:a<=16777216):IntKind.i64.wrap ((IntKind.u64.wrap keep).tmod (IntKind.u64.wrap (((a:Nat):Int)-((b:Nat):Int)+1)))=((MZ keep (a-b):Nat):Int):=by
 have hw:∀z,IntKind.u64.wrap z=z%18446744073709551616:=fun z=>by simp[IntKind.wrap,IntKind.bits,IntKind.signed]
 have h1:IntKind.u64.wrap (((a:Nat):Int)-((b:Nat):Int)+1)=((a-b+1:Nat):Int):=by rw[hw];omega
 rw[h1,hw,Int.tmod_eq_emod_of_nonneg Zo]
 have hk:=PC keep (a-b)
 have e:(keep%18446744073709551616)%((a-b+1:Nat):Int)=((MZ keep (a-b):Nat):Int):=by
  obtain⟨k,hk⟩:∃k:Nat,keep%18446744073709551616=k:=⟨(keep%18446744073709551616).toNat,by omega⟩
  rw[MZ,hk,Ab4];omega
 rw[e,J9 _ Zo Zo]
theorem Zg {a b:Nat}(h:b<=a)(h2:a<=16777216):IntKind.u64.wrap (((a:Nat):Int)-((b:Nat):Int)+1)≠0:=by
 have hw:∀z,IntKind.u64.wrap z=z%18446744073709551616:=fun z=>by simp[IntKind.wrap,IntKind.bits,IntKind.signed]
 rw[hw];omega
attribute [local irreducible] A5 EM AW AK Cy setM Ax Ao
theorem GN.disk {w:World}{b d:Nat}{Z:Nat->Prop}{pl:List PF}{s:KF}(h:GN w b d Z pl s):∃F:Nat->Prop,AG w d F 4194304 pl∧(∀q,F q->Z q)∧∀q,F q->7<=q:=by
 obtain⟨lg,m1,m2,m3,F,st,ts,ks,hs,rfl,H,-⟩:=h
 exact⟨F,H.disk,fun q hq=> .inl (.inl hq),fun q hq=>H.ge q (.inl hq)⟩
attribute [local irreducible] X
theorem Xl (d:Nat)(F:Nat->Prop)(room:Int)(pl:List PF)(keep:Int)(w:World)(hD:AG w d F room pl):
  Calls prog 18 #[jp d,.int .i64 keep] w (AN (fun v w'=>∃a' c',v= .slice a' (Di pl keep).length c'∧Af w' 129 a' c' (Di pl keep)∧(∀q,own a' q->w.heap.size<=q)∧Ap w w')):=by
 have hok:=hD.ok;have hnl:(A3 pl).length<=64:=by rw[A3,Cf.length_eq,Aad];exact hok.len
 have htl:=H0 pl keep;refine Ac (n:=41) func18 rfl rfl rfl ?_;refine jG ?_;refine jR<|jC (TX hD) ?_;rintro _ ae ⟨a2,a9,rfl,a0,af,aa⟩;clear af;have K0:=(aa:Ap w _);refine jG ?_;replace hD:=hD.ext aa;refine Ai.loop (ι:=Nat) (fun i ρ' w'=>∃az:Option Addr,∃cz:Nat,Holds ρ' [(0,jp d),(1,.int .i64 keep),(5,.slice az (((Di pl keep).take i).length) cz),(12,.slice a2 ((A3 pl).length) a9),(13,.int .i64 (((A3 pl).length:Nat):Int)),(14,.int .i64 ((i:Nat):Int))]∧Ap w w'∧(AG w' d F room pl)∧(Af w' 9 a2 a9 (A3 pl))∧(Af w' 129 az cz ((Di pl keep).take i))∧(∀q_,own az q_->¬F q_)∧(∀q_,own az q_->¬own a2 q_)∧(∀q_,own az q_->w.heap.size<=q_)∧(i<=(A3 pl).length)) (fun i=>(A3 pl).length-i) 0 ?_ ?_
 ·rw[show(Di pl keep).take 0=[]from AaE]
  have ag:=Af.nil (α:=FB) ae 129;refine⟨_,_,⟨rfl,rfl,rfl,rfl,rfl,rfl,trivial⟩,K0,hD,a0,ag,(fun q_ h1 _=>Ae q_ h1),(fun q_ h1 _=>Ae q_ h1),(fun q_ h1=>absurd h1 (Ae q_)),?_⟩
  ·omega
 clear hD a0;clear K0;rintro i ao ap ⟨az,cz,ab,K0,hD,a0,a1,ac,ad,a6,hi⟩ ih1;obtain⟨ρ₀,rfl⟩:=ab.ex;clear ab;refine jG ?_;refine jF ?_ ?_
 ·intro hc15
  obtain⟨aq,ar,s,hs,au,av⟩:=a0.sl.eo i;obtain⟨hz0,hz1⟩:=IY hok hs;obtain⟨hz2,hz3⟩:=OW hok s;have htk:((Di pl keep).take i).length<=(Di pl keep).length:=by rw[List.length_take];omega
  refine jG ?_;refine jR<|jC (XH hD s (by first|omega|decide)) ?_;rintro _ aw ⟨rfl,a3⟩;refine jG ?_;refine jV (Fy rfl ⟨_,underlying3⟩ underlying106) ?_;refine jG ?_;refine jV (BT rfl rfl Zo Zo) ?_;refine jV (Au rfl rfl Zo Zo) ?_;refine jV (Fy rfl ⟨_,underlying3⟩ underlying106) ?_;refine jV (Xv rfl rfl (Zg hz2 hz3)) ?_;refine jV (Az (c:=((MZ keep (CY pl s-Ec pl s):Nat):Int)) (Fy rfl ⟨_,underlying106⟩ underlying3) (Xk keep _ _ hz2 hz3)) ?_;refine jV (AI (cells:=#[.string s,.int .i64 ((MZ keep (CY pl s-Ec pl s):Nat):Int),.slice none 0 0]) Zk) ?_;refine jR<|AA.buildSlice ([(⟨s,((MZ keep (CY pl s-Ec pl s):Nat):Int),⟨none,0,0⟩⟩:FB)]:List FB) underlying59 ty129 rfl rfl Ze ?_;intro ax ay ah ai a4;clear ah;replace a1:=(a1.ext a3).ext a4;refine jR<|AA.append (xs:=(Di pl keep).take i) (ys:=([(⟨s,((MZ keep (CY pl s-Ec pl s):Nat):Int),⟨none,0,0⟩⟩:FB)]:List FB)) underlying59 ty129 rfl rfl rfl a1 ai.sl Zr Zd ?_;intro a7 aA aB aj a8 a5 ak;replace hD:=(hD.ext a3).ext a4;have al:∀q_,own a7 q_->¬F q_:=a5.apart ac hD.oL;replace a0:=(a0.ext a3).ext a4;have am:∀q_,own a7 q_->¬own a2 q_:=a5.apart ad a0.oL;replace K0:=(K0.ext a3).ext a4;have an:∀q_,own a7 q_->w.heap.size<=q_:=a5.ge a6 K0.size;clear a5;clear ak;refine jG ?_;refine jV (Az (c:=((i+1:Nat):Int)) (Au rfl rfl Zo Zo) rfl) ?_;refine jG ?_;refine ih1 (i+1) _ _ ?_ Zo;rw[Qd hs];replace hD:=hD.kO a8 (Zf ac);replace a0:=a0.kO a8 (Zf ad);replace K0:=K0.new a8 a6;refine⟨_,_,⟨rfl,rfl,rfl,rfl,rfl,rfl,trivial⟩,K0,hD,a0,aj,al,am,an,?_⟩
  ·omega
 ·intro hc15
  refine jG ?_;refine jJ func18 ?_;have hie:i=(A3 pl).length:=by omega
  subst hie;have e_:(Di pl keep).take (A3 pl).length=Di pl keep:=AaA (by rw[H0];exact Aac _);rw[e_]at a1⊢;exact⟨_,rfl,az,cz,rfl,a1,a6,K0⟩
end Go.Proofs.YtjkaicjmfgekjaaGreatDoor
