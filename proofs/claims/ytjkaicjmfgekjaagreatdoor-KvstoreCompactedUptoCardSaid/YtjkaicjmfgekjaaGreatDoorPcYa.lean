/-
  Ya, Yb, Yc, Yd, Ye, Yf, Yg, Yh, Yi, Ka, Kb
-/
import Derived.Shelf.Strconv.Itoa3
import Derived.Shelf.Strconv.AtoiAll
import Derived.Lib.SmallJoins
import Derived.Sort.OwnSortedInts
import Derived.Test.YtjkaicjmfgekjaaGreatDoorPcDk
import Derived.Test.YtjkaicjmfgekjaaGreatDoorPcXa
import Derived.Test.YtjkaicjmfgekjaaGreatDoorPcDefer
set_option linter.all false
set_option maxRecDepth 100000
set_option maxHeartbeats 4000000
namespace Go.Proofs.YtjkaicjmfgekjaaGreatDoor
open Go.Proofs.Tryz
attribute [local irreducible] RD RS AB RL RA RT CB Ai crcN CV CP F6 Co leL C9
section
open Go.Shelf
def itoaL_ren :Go.Shelf.Ren:=⟨fun|171=>155|243=>215|246=>260|283=>304|284=>305|285=>306|286=>307|129=>255|317=>339|318=>340|319=>341|320=>342|337=>354|338=>355|n=>n,fun|3=>3|9=>9|2=>2|4=>4|171=>341|0=>0|53=>74|37=>98|5=>5|173=>343|212=>372|51=>84|20=>20|213=>373|46=>106|232=>387|233=>388|n=>n,fun|17=>4|18=>5|19=>6|n=>n⟩
def itoaL :Go.Proofs.LaysM.n171 prog itoaL_ren:={
 mixed:=by kernel_rfl
 f129:=func255.trans (congrArg some Zk)
 f171:=func155.trans (congrArg some Zk)
 f243:=func215.trans (congrArg some Zk)
 f246:=func260.trans (congrArg some Zk)
 f283:=func304.trans (congrArg some Zk)
 f284:=func305.trans (congrArg some Zk)
 f285:=func306.trans (congrArg some Zk)
 f286:=func307.trans (congrArg some Zk)
 f317:=func339.trans (congrArg some Zk)
 f318:=func340.trans (congrArg some Zk)
 f319:=func341.trans (congrArg some Zk)
 f320:=func342.trans (congrArg some Zk)
 f337:=func354.trans (congrArg some Zk)
 f338:=func355.trans (congrArg some Zk)
 t0:=underlying0
 a0:=Tryz.isAgg0
 z0:=Tryz.sizeOf0
 v0:=Tryz.zeroValue0
 t2:=underlying2
 a2:=Tryz.isAgg2
 z2:=Tryz.sizeOf2
 v2:=Tryz.zeroValue2
 t3:=underlying3
 a3:=Tryz.isAgg3
 z3:=Tryz.sizeOf3
 v3:=Tryz.zeroValue3
 t4:=underlying4
 a4:=Tryz.isAgg4
 z4:=Tryz.sizeOf4
 v4:=Tryz.zeroValue4
 t5:=underlying5
 a5:=Tryz.isAgg5
 z5:=Tryz.sizeOf5
 v5:=Tryz.zeroValue5
 t9:=underlying9
 a9:=Tryz.isAgg9
 z9:=Tryz.sizeOf9
 v9:=Tryz.zeroValue9
 t20:=underlying20
 a20:=Tryz.isAgg20
 z20:=Tryz.sizeOf20
 v20:=Tryz.zeroValue20
 t37:=underlying98
 a37:=Tryz.isAgg98
 z37:=Tryz.sizeOf98
 v37:=Tryz.zeroValue98
 t46:=underlying106
 a46:=Tryz.isAgg106
 z46:=Tryz.sizeOf106
 v46:=Tryz.zeroValue106
 t51:=underlying84
 a51:=Tryz.isAgg84
 z51:=Tryz.sizeOf84
 v51:=Tryz.zeroValue84
 t53:=underlying74
 a53:=Tryz.isAgg74
 z53:=Tryz.sizeOf74
 v53:=Tryz.zeroValue74
 t171:=underlying341
 a171:=Tryz.isAgg341
 z171:=Tryz.sizeOf341
 v171:=Tryz.zeroValue341
 t173:=underlying343
 a173:=Tryz.isAgg343
 z173:=Tryz.sizeOf343
 v173:=Tryz.zeroValue343
 t212:=underlying372
 a212:=Tryz.isAgg372
 z212:=Tryz.sizeOf372
 v212:=Tryz.zeroValue372
 t213:=underlying373
 a213:=Tryz.isAgg373
 z213:=Tryz.sizeOf373
 t232:=underlying387
 a232:=Tryz.isAgg387
 z232:=Tryz.sizeOf387
 v232:=Tryz.zeroValue387
 t233:=underlying388
 a233:=Tryz.isAgg388
 z233:=Tryz.sizeOf388
 v233:=Tryz.zeroValue388
 g17:=by kernel_rfl
 g18:=by kernel_rfl
 g19:=by kernel_rfl
 i0:=by kernel_rfl
 i2:=by kernel_rfl
 i3:=by kernel_rfl
 i4:=by kernel_rfl
 i5:=by kernel_rfl
 i9:=by kernel_rfl
 i20:=by kernel_rfl
 i37:=by kernel_rfl
 i46:=by kernel_rfl
 i51:=by kernel_rfl
 i53:=by kernel_rfl
 i171:=by kernel_rfl
 i173:=by kernel_rfl
 i212:=by kernel_rfl
 i232:=by kernel_rfl
 i233:=by kernel_rfl
 m17:=by kernel_rfl
 m18:=by kernel_rfl
 m19:=by kernel_rfl}
def atoiL_ren :Go.Shelf.Ren:=⟨fun|172=>213|244=>257|245=>258|247=>290|279=>291|280=>292|281=>293|282=>294|287=>332|316=>333|171=>155|205=>334|321=>351|322=>352|243=>215|246=>260|283=>304|284=>305|285=>306|286=>307|129=>255|317=>339|318=>340|319=>341|320=>342|337=>354|338=>355|n=>n,fun|9=>9|3=>3|75=>272|76=>273|4=>4|5=>5|167=>330|37=>98|0=>0|85=>331|2=>2|168=>333|53=>74|175=>363|46=>106|210=>367|127=>380|145=>383|143=>381|21=>21|171=>341|173=>343|212=>372|51=>84|20=>20|213=>373|232=>387|233=>388|80=>389|n=>n,fun|15=>2|16=>3|17=>4|18=>5|19=>6|n=>n⟩
def atoiL :Go.Proofs.LaysC.n172 prog atoiL_ren:={
 mixed:=by kernel_rfl
 f129:=func255.trans (congrArg some Zk)
 f171:=func155.trans (congrArg some Zk)
 f172:=func213.trans (congrArg some Zk)
 f205:=func334.trans (congrArg some Zk)
 f243:=func215.trans (congrArg some Zk)
 f244:=func257.trans (congrArg some Zk)
 f245:=func258.trans (congrArg some Zk)
 f246:=func260.trans (congrArg some Zk)
 f247:=func290.trans (congrArg some Zk)
 f279:=func291.trans (congrArg some Zk)
 f280:=func292.trans (congrArg some Zk)
 f281:=func293.trans (congrArg some Zk)
 f282:=func294.trans (congrArg some Zk)
 f283:=func304.trans (congrArg some Zk)
 f284:=func305.trans (congrArg some Zk)
 f285:=func306.trans (congrArg some Zk)
 f286:=func307.trans (congrArg some Zk)
 f287:=func332.trans (congrArg some Zk)
 f316:=func333.trans (congrArg some Zk)
 f317:=func339.trans (congrArg some Zk)
 f318:=func340.trans (congrArg some Zk)
 f319:=func341.trans (congrArg some Zk)
 f320:=func342.trans (congrArg some Zk)
 f321:=func351.trans (congrArg some Zk)
 f322:=func352.trans (congrArg some Zk)
 f337:=func354.trans (congrArg some Zk)
 f338:=func355.trans (congrArg some Zk)
 t0:=underlying0
 a0:=Tryz.isAgg0
 z0:=Tryz.sizeOf0
 v0:=Tryz.zeroValue0
 t2:=underlying2
 a2:=Tryz.isAgg2
 z2:=Tryz.sizeOf2
 v2:=Tryz.zeroValue2
 t3:=underlying3
 a3:=Tryz.isAgg3
 z3:=Tryz.sizeOf3
 v3:=Tryz.zeroValue3
 t4:=underlying4
 a4:=Tryz.isAgg4
 z4:=Tryz.sizeOf4
 v4:=Tryz.zeroValue4
 t5:=underlying5
 a5:=Tryz.isAgg5
 z5:=Tryz.sizeOf5
 v5:=Tryz.zeroValue5
 t9:=underlying9
 a9:=Tryz.isAgg9
 z9:=Tryz.sizeOf9
 v9:=Tryz.zeroValue9
 t20:=underlying20
 a20:=Tryz.isAgg20
 z20:=Tryz.sizeOf20
 v20:=Tryz.zeroValue20
 t21:=underlying21
 a21:=Tryz.isAgg21
 z21:=Tryz.sizeOf21
 v21:=Tryz.zeroValue21
 t37:=underlying98
 a37:=Tryz.isAgg98
 z37:=Tryz.sizeOf98
 v37:=Tryz.zeroValue98
 t46:=underlying106
 a46:=Tryz.isAgg106
 z46:=Tryz.sizeOf106
 v46:=Tryz.zeroValue106
 t51:=underlying84
 a51:=Tryz.isAgg84
 z51:=Tryz.sizeOf84
 v51:=Tryz.zeroValue84
 t53:=underlying74
 a53:=Tryz.isAgg74
 z53:=Tryz.sizeOf74
 v53:=Tryz.zeroValue74
 t75:=underlying272
 a75:=Tryz.isAgg272
 z75:=Tryz.sizeOf272
 v75:=Tryz.zeroValue272
 t76:=underlying273
 a76:=Tryz.isAgg273
 z76:=Tryz.sizeOf273
 v76:=Tryz.zeroValue273
 t85:=underlying331
 a85:=Tryz.isAgg331
 z85:=Tryz.sizeOf331
 v85:=Tryz.zeroValue331
 t127:=underlying380
 a127:=Tryz.isAgg380
 z127:=Tryz.sizeOf380
 v127:=Tryz.zeroValue380
 t143:=underlying381
 a143:=Tryz.isAgg381
 z143:=Tryz.sizeOf381
 v143:=Tryz.zeroValue381
 t145:=underlying383
 a145:=Tryz.isAgg383
 z145:=Tryz.sizeOf383
 v145:=Tryz.zeroValue383
 t167:=underlying330
 a167:=Tryz.isAgg330
 z167:=Tryz.sizeOf330
 v167:=Tryz.zeroValue330
 t168:=underlying333
 a168:=Tryz.isAgg333
 z168:=Tryz.sizeOf333
 v168:=Tryz.zeroValue333
 t171:=underlying341
 a171:=Tryz.isAgg341
 z171:=Tryz.sizeOf341
 v171:=Tryz.zeroValue341
 t173:=underlying343
 a173:=Tryz.isAgg343
 z173:=Tryz.sizeOf343
 v173:=Tryz.zeroValue343
 t175:=underlying363
 a175:=Tryz.isAgg363
 z175:=Tryz.sizeOf363
 v175:=Tryz.zeroValue363
 t210:=underlying367
 a210:=Tryz.isAgg367
 z210:=Tryz.sizeOf367
 v210:=Tryz.zeroValue367
 t212:=underlying372
 a212:=Tryz.isAgg372
 z212:=Tryz.sizeOf372
 v212:=Tryz.zeroValue372
 t213:=underlying373
 a213:=Tryz.isAgg373
 z213:=Tryz.sizeOf373
 t232:=underlying387
 a232:=Tryz.isAgg387
 z232:=Tryz.sizeOf387
 v232:=Tryz.zeroValue387
 t233:=underlying388
 a233:=Tryz.isAgg388
 z233:=Tryz.sizeOf388
 v233:=Tryz.zeroValue388
 g15:=by kernel_rfl
 g16:=by kernel_rfl
 g17:=by kernel_rfl
 g18:=by kernel_rfl
 g19:=by kernel_rfl
 t80:=underlying389
 a80:=Tryz.isAgg389
 z80:=Tryz.sizeOf389
 v80:=Tryz.zeroValue389
 i0:=by kernel_rfl
 i2:=by kernel_rfl
 i3:=by kernel_rfl
 i4:=by kernel_rfl
 i5:=by kernel_rfl
 i9:=by kernel_rfl
 i20:=by kernel_rfl
 i21:=by kernel_rfl
 i37:=by kernel_rfl
 i46:=by kernel_rfl
 i51:=by kernel_rfl
 i53:=by kernel_rfl
 i75:=by kernel_rfl
 i76:=by kernel_rfl
 i80:=by kernel_rfl
 i85:=by kernel_rfl
 i127:=by kernel_rfl
 i143:=by kernel_rfl
 i145:=by kernel_rfl
 i167:=by kernel_rfl
 i168:=by kernel_rfl
 i171:=by kernel_rfl
 i173:=by kernel_rfl
 i175:=by kernel_rfl
 i210:=by kernel_rfl
 i212:=by kernel_rfl
 i232:=by kernel_rfl
 i233:=by kernel_rfl
 m15:=by kernel_rfl
 m16:=by kernel_rfl
 m17:=by kernel_rfl
 m18:=by kernel_rfl
 m19:=by kernel_rfl
 c0:=by kernel_rfl
 c2:=by kernel_rfl
 c3:=by kernel_rfl
 c4:=by kernel_rfl
 c5:=by kernel_rfl
 c9:=by kernel_rfl
 c20:=by kernel_rfl
 c21:=by kernel_rfl
 c37:=by kernel_rfl
 c46:=by kernel_rfl
 c51:=by kernel_rfl
 c53:=by kernel_rfl
 c75:=by kernel_rfl
 c76:=by kernel_rfl
 c80:=by kernel_rfl
 c85:=by kernel_rfl
 c127:=by kernel_rfl
 c143:=by kernel_rfl
 c145:=by kernel_rfl
 c167:=by kernel_rfl
 c168:=by kernel_rfl
 c171:=by kernel_rfl
 c173:=by kernel_rfl
 c175:=by kernel_rfl
 c210:=by kernel_rfl
 c212:=by kernel_rfl
 c213:=by kernel_rfl
 c232:=by kernel_rfl
 c233:=by kernel_rfl}
def sortI_ren :Go.Shelf.Ren:=⟨fun|5=>214|8=>210|7=>259|19=>254|20=>255|10=>295|11=>296|12=>297|13=>298|14=>299|15=>300|16=>301|17=>302|18=>303|30=>335|31=>285|32=>286|33=>336|34=>337|35=>338|40=>353|n=>n,fun|23=>185|25=>3|3=>3|32=>106|22=>185|0=>0|44=>84|46=>74|4=>4|36=>299|35=>298|41=>228|5=>5|9=>9|53=>325|57=>318|63=>360|64=>361|n=>n,fun|n=>n⟩
def sortI :Go.Proofs.SlLaysM.n5 prog sortI_ren:={
 mixed:=by kernel_rfl
 f5:=⟨Tryz.f214.name,by decide,func214.trans (congrArg some Zk)⟩
 f7:=⟨Tryz.f259.name,by decide,func259.trans (congrArg some Zk)⟩
 f8:=func210.trans (congrArg some Zk)
 f10:=⟨Tryz.f295.name,by decide,func295.trans (congrArg some Zk)⟩
 f11:=⟨Tryz.f296.name,by decide,func296.trans (congrArg some Zk)⟩
 f12:=⟨Tryz.f297.name,by decide,func297.trans (congrArg some Zk)⟩
 f13:=⟨Tryz.f298.name,by decide,func298.trans (congrArg some Zk)⟩
 f14:=⟨Tryz.f299.name,by decide,func299.trans (congrArg some Zk)⟩
 f15:=⟨Tryz.f300.name,by decide,func300.trans (congrArg some Zk)⟩
 f16:=⟨Tryz.f301.name,by decide,func301.trans (congrArg some Zk)⟩
 f17:=⟨Tryz.f302.name,by decide,func302.trans (congrArg some Zk)⟩
 f18:=⟨Tryz.f303.name,by decide,func303.trans (congrArg some Zk)⟩
 f19:=func254.trans (congrArg some Zk)
 f20:=func255.trans (congrArg some Zk)
 f30:=⟨Tryz.f335.name,by decide,func335.trans (congrArg some Zk)⟩
 f31:=func285.trans (congrArg some Zk)
 f32:=func286.trans (congrArg some Zk)
 f33:=⟨Tryz.f336.name,by decide,func336.trans (congrArg some Zk)⟩
 f34:=⟨Tryz.f337.name,by decide,func337.trans (congrArg some Zk)⟩
 f35:=⟨Tryz.f338.name,by decide,func338.trans (congrArg some Zk)⟩
 f40:=⟨Tryz.f353.name,by decide,func353.trans (congrArg some Zk)⟩
 t0:=underlying0
 a0:=Tryz.isAgg0
 z0:=Tryz.sizeOf0
 v0:=Tryz.zeroValue0
 t3:=underlying3
 a3:=Tryz.isAgg3
 z3:=Tryz.sizeOf3
 v3:=Tryz.zeroValue3
 t4:=underlying4
 a4:=Tryz.isAgg4
 z4:=Tryz.sizeOf4
 v4:=Tryz.zeroValue4
 t5:=underlying5
 a5:=Tryz.isAgg5
 z5:=Tryz.sizeOf5
 v5:=Tryz.zeroValue5
 t9:=underlying9
 a9:=Tryz.isAgg9
 z9:=Tryz.sizeOf9
 v9:=Tryz.zeroValue9
 t22:=underlying185
 a22:=Tryz.isAgg185
 z22:=Tryz.sizeOf185
 v22:=Tryz.zeroValue185
 t23:=underlying185
 a23:=Tryz.isAgg185
 z23:=Tryz.sizeOf185
 v23:=Tryz.zeroValue185
 t25:=underlying3
 a25:=Tryz.isAgg3
 z25:=Tryz.sizeOf3
 v25:=Tryz.zeroValue3
 t32:=underlying106
 a32:=Tryz.isAgg106
 z32:=Tryz.sizeOf106
 v32:=Tryz.zeroValue106
 t35:=underlying298
 a35:=Tryz.isAgg298
 z35:=Tryz.sizeOf298
 v35:=Tryz.zeroValue298
 t36:=underlying299
 a36:=Tryz.isAgg299
 z36:=Tryz.sizeOf299
 v36:=Tryz.zeroValue299
 t41:=underlying228
 a41:=Tryz.isAgg228
 z41:=Tryz.sizeOf228
 v41:=Tryz.zeroValue228
 t44:=underlying84
 a44:=Tryz.isAgg84
 z44:=Tryz.sizeOf84
 v44:=Tryz.zeroValue84
 t46:=underlying74
 a46:=Tryz.isAgg74
 z46:=Tryz.sizeOf74
 v46:=Tryz.zeroValue74
 t53:=underlying325
 a53:=Tryz.isAgg325
 z53:=Tryz.sizeOf325
 v53:=Tryz.zeroValue325
 t57:=underlying318
 a57:=Tryz.isAgg318
 z57:=Tryz.sizeOf318
 v57:=Tryz.zeroValue318
 t63:=underlying360
 a63:=Tryz.isAgg360
 z63:=Tryz.sizeOf360
 v63:=Tryz.zeroValue360
 t64:=underlying361
 a64:=Tryz.isAgg361
 z64:=Tryz.sizeOf361
 v64:=Tryz.zeroValue361}
end
section
open Go.RowKit Go.Sort Go.Shelf
def gTab :prog.globalNamed "internal/strconv.uint64pow10" =some 4:=by kernel_rfl
def UF (w:World):Prop:=Lib.TabIs prog w "internal/strconv.uint64pow10" .u64 Lib.pow10Tab
structure A5 (w:World):Prop where
 tab:UF w
 e1:∃t p,w.cell? ⟨2,0,none⟩=some (.iface t p)
 e2:∃t p,w.cell? ⟨3,0,none⟩=some (.iface t p)
 size:7<=w.heap.size
def A5.keep {S:Nat->Prop}{w w':World}(h:A5 w)(k:Ae S w w')(hs:∀q,S q->7<=q):A5 w':=by
 have e:∀q,q<7->w'.heap[q]? =w.heap[q]? :=λq hq=>k.block q (Aa4 hq h.size) (λhS=>absurd (hs q hS) Zo)
 obtain⟨h1,h2,h3,h4⟩:=h;refine⟨?_,?_,?_,Aaa h4 k.size⟩
 ·unfold UF Lib.TabIs World.var? at h1⊢;rw[gTab]at h1⊢;simp only[AbN]at h1⊢;rw[e 4 Zd];exact h1
 ·unfold World.cell? at h2⊢;rw[e 2 Zd];exact h2
 unfold World.cell? at h3⊢;rw[e 3 Zd];exact h3
def A5.ext {w w':World}(h:A5 w)(k:As w w'):A5 w':=h.keep k λ_ h=>h.elim
def UG (w:World)(k:Nat)(os:Array Obj):As w (grow (w.drewN k) os):=by
 refine⟨rfl,rfl,rfl,?_,λb hb _=> ?_⟩
 ·simp[grow,World.drewN]
 simp only[grow,World.drewN,Array.getElem?_append_left hb]
def hY (n:Int)(w:World)(h0: -9223372036854775808<=n)(h1:n<=9223372036854775807)(ht:UF w):
  Calls prog 155 #[.int .i64 n] w (AU λv w'=>v= .string ⟨(Lib.itoa n).toArray⟩/\As w w'):=
 (Any.strconv_Itoa itoaL n h0 h1 w ht).mono λe w' ⟨he,k,os,hw⟩=>⟨_,he,rfl,hw▸UG w k os⟩
def Yg (s:ByteArray)(w:World)(hl:s.size<=4294967295)(h:A5 w):
  Calls prog 213 #[.string s] w (AU λv w'=>(∃n,Lib.atoiAll s.data.toList= .ok n/\v= .tuple #[.int .i64 n,.nilIface]/\As w w')\/((∀n,Lib.atoiAll s.data.toList≠ .ok n)/\∃n t p,v= .tuple #[.int .i64 n,.iface t (.pointer p)]/\As w w')):=by
 obtain⟨t1,p1,e1⟩:=h.e1;obtain⟨t2,p2,e2⟩:=h.e2;rcases hc:Lib.atoiAll s.data.toList with n|_|_
 ·refine(Any.strconv_Atoi_ok atoiL s Zo n hc w).mono λe w' ⟨he,hw⟩=>⟨_,he,.inl ⟨n,rfl,rfl,?_⟩⟩
  rcases hw with rfl|⟨t,rfl⟩
  ·exact Ae.refl _ _
  exact Fe (Lib.bytesWorld_below _ _ _)
 ·exact(Any.strconv_Atoi_syntax atoiL s Zo hc _ w e1 (.inr ⟨t1,p1,rfl⟩)).mono λe w' ⟨N,he,_,_,hb⟩=>⟨_,he,.inr ⟨(λn h=>by cases h),_,_,_,rfl,Fe hb⟩⟩
 exact(Any.strconv_Atoi_range atoiL s Zo hc _ w e2 (.inr ⟨t2,p2,rfl⟩)).mono λe w' ⟨N,he,_,_,hb⟩=>⟨_,he,.inr ⟨(λn h=>by cases h),_,_,_,rfl,Fe hb⟩⟩
def Mv (l:List Int):AS l=l.map (Value.int .i64):=by
 induction l with
 |nil=>rfl
 |cons x l ih=>rw[Cd,ih];rfl
end
def logB :ByteArray:=⟨#[108,111,103,46]⟩
def Ao (n:Int):ByteArray:=if 1<=n/\n<=999999999 then logB++⟨(Lib.itoa n).toArray⟩else⟨#[]⟩
def dec_len : ∀ (k u : Nat), u < 10 ^ (k + 1) -> (Lib.decDigits u).length <= k + 1
  | 0, u, h => by rw [Lib.decDigits, dif_pos Zo]; simp
  | k + 1, u, h => by
    rw [Lib.decDigits];split
    · simp
    have := dec_len k (u / 10) (by rw [Nat.pow_succ] at h; omega);simp only [Aab, Aa2]; omega
def OC {n:Int}(h0:1<=n)(h1:n<=999999999):(Lib.itoa n).length<=9:=by
 rw[Lib.itoa,if_neg Zo];exact dec_len 8 _ Zo
def J9 {n:Int}(h:n<1\/999999999<n):Ao n=⟨#[]⟩:=if_neg Zo
def KY {n:Int}(h:¬(n<1\/999999999<n)):Ao n=logB++⟨(Lib.itoa n).toArray⟩:=if_pos Zo
def Qe (l:List UInt8):Nat:=l.foldl (λa c=>a*10+(c.toNat-48)) 0
def SP (l:List UInt8)(c:UInt8):Qe (l++[c])=Qe l*10+(c.toNat-48):=by rw[Qe,Abg];rfl
def Rx (c:UInt8):Prop:=48<=c.toNat/\c.toNat<=57
def Hl (m:Nat)(h:m<10):(UInt8.ofNat (48+m)).toNat=48+m:=by rw[UInt8.toNat_ofNat'];omega
def valD_dec : ∀ (u : Nat), Qe (Lib.decDigits u) = u := λu => by
  induction u using Nat.strongRecOn with
  | _ u ih =>
    rw [Lib.decDigits];by_cases c : u < 10
    · rw [dif_pos c, Qe, AaK, List.foldl_nil, Hl u c]; omega
    rw [dif_neg c, SP, ih (u / 10) Zo, Hl _ Zo]; omega
def dec_dig : ∀ (u : Nat), ∀ c ∈ Lib.decDigits u, Rx c := λu => by
  induction u using Nat.strongRecOn with
  | _ u ih =>
    intro x hx;rw [Lib.decDigits] at hx;by_cases c : u < 10
    · rw [dif_pos c] at hx;simp only [Aah] at hx;subst hx;rw [Rx, Hl u c]; omega
    rw [dif_neg c] at hx;rcases List.mem_append.1 hx with hx | hx
    · exact ih (u / 10) Zo x hx
    simp only [Aah] at hx;subst hx;rw [Rx, Hl _ Zo]; omega
def YS (u:Nat):Lib.decDigits u≠ []:=by
 rw[Lib.decDigits];split
 ·simp
 simp
def logB_size :logB.size=4:=rfl
def SQ {n:Nat}(h1:1<=n)(h2:n<=999999999):Ao (n:Int)=logB++⟨(Lib.decDigits n).toArray⟩:=by
 rw[KY Zo,Lib.itoa,if_neg Zo];rfl
def Fu {n:Nat}(h1:1<=n)(h2:n<=999999999):(Ao (n:Int)).data.toList=[108,111,103,46]++Lib.decDigits n:=by
 rw[SQ h1 h2,ByteArray.data_append,Array.toList_append];rfl
def YT {a b:ByteArray}(h:a.data.toList=b.data.toList):a=b:=ByteArray.ext (Array.toList_inj.1 h)
def Mw {n m:Nat}(h1:1<=n)(h2:n<=999999999)(h3:1<=m)(h4:m<=999999999)(e:Ao (n:Int)=Ao (m:Int)):n=m:=by
 have:=congrArg (λb=>b.data.toList) e
 simp only[Fu h1 h2,Fu h3 h4]at this;have:=List.append_cancel_left this
 rw[<-valD_dec n,<-valD_dec m,this]
open Classical in
noncomputable def JW (s:ByteArray):Nat:=if h:∃n:Nat,1<=n/\n<=999999999/\Ao (n:Int)=s then Classical.choose h else 0
def Mx {n:Nat}(h1:1<=n)(h2:n<=999999999):JW (Ao (n:Int))=n:=by
 have h:∃k:Nat,1<=k/\k<=999999999/\Ao (k:Int)=Ao (n:Int):=⟨n,h1,h2,rfl⟩
 rw[JW,dif_pos h];have:=Classical.choose_spec h
 exact Mw this.1 this.2.1 h1 h2 this.2.2
def UH {s:ByteArray}(h:JW s≠0):1<=JW s/\JW s<=999999999/\Ao (JW s:Int)=s:=by
 by_cases c:∃n:Nat,1<=n/\n<=999999999/\Ao (n:Int)=s
 ·rw[JW,dif_pos c]at h⊢;exact Classical.choose_spec c
 rw[JW,dif_neg c]at h;exact absurd rfl h
def Jd {s:ByteArray}(h:∀n:Nat,1<=n->n<=999999999->Ao (n:Int)≠s):JW s=0:=by
 rw[JW,dif_neg];rintro⟨n,h1,h2,h3⟩;exact h n h1 h2 h3
def Fv (s:ByteArray):Bool:=decide (4<=s.size)&&decide (s.extract 0 4=logB)
def DY (s:ByteArray):ByteArray:=s.extract 4 s.size
def OD (s:ByteArray)(i j:Nat):(s.extract i j).data.toList=(s.data.toList.drop i).take (j-i):=by
 rw[ByteArray.data_extract,Array.toList_extract,List.extract]
def Je {n:Nat}(h1:1<=n)(h2:n<=999999999):Fv (Ao (n:Int))=true/\(DY (Ao (n:Int))).data.toList=Lib.decDigits n:=by
 have hl:=Fu h1 h2;have hsz:(Ao (n:Int)).size=4+(Lib.decDigits n).length:=by
  have:=congrArg List.length hl
  rw[AaA,Aab]at this;exact this
 constructor
 ·rw[Fv,Aao,decide_eq_true_iff,decide_eq_true_iff];refine⟨by omega,YT ?_⟩;rw[OD,hl];simp[logB]
 rw[DY,OD,hl,hsz];simp
def OE {n : Nat} (h1 : 1 <= n) (h2 : n <= 999999999) : Lib.atoiAll (Lib.decDigits n) = .ok (n : Int) := by
  have key : ∀ (l : List UInt8) (acc : Nat), (∀ c ∈ l, Rx c) -> l.foldl (λa c => a * 10 + (c.toNat - 48)) acc <= 999999999 -> Lib.parseUint10 acc l = .ok (l.foldl (λa c => a * 10 + (c.toNat - 48)) acc) := by
    intro l;induction l with
    | nil => intro acc _ _; rfl
    | cons c r ih =>
      intro acc hd hle;have mono : ∀ (l : List UInt8) (a : Nat), a <= l.foldl (λa c => a * 10 + (c.toNat - 48)) a := by
        intro l;induction l with
        | nil => intro a; exact Aac _
        | cons x r ih => intro a; exact Aaa (show a <= a * 10 + (x.toNat - 48) by omega) (ih _)
      have hc := hd c Zs;have h3 := mono r (acc * 10 + (c.toNat - 48));rw [AaK] at hle ⊢;rw [Lib.parseUint10, if_pos ⟨hc.1, hc.2⟩, if_neg Zo, if_neg Zo];exact ih _ (λx hx => hd x (by simp [hx])) hle
  have hd := dec_dig n;have hv := valD_dec n;have hne := YS n;generalize Lib.decDigits n = l at *;cases l with
  | nil => exact absurd rfl hne
  | cons c r =>
    have hc := hd c Zs;have hc1 := hc.1;have hc2 := hc.2;have hp : Lib.parseMag (c :: r) = .ok n := by
      rw [Lib.parseMag, if_neg Zs, key _ 0 hd (by rw [Qe] at hv; omega)];rw [Qe] at hv;rw [hv]
    simp only [Lib.atoiAll];rw [if_neg Zo, hp];simp only;rw [if_neg Zo, if_neg Zo, if_neg Zo]
noncomputable def E7 (s:ByteArray):Option Int:=if JW s=0 then none else some (JW s:Int)
def WU {s:ByteArray}{n:Int}(hm:s.size≠0)(h:Ao n=s):E7 s=some n:=by
 by_cases c:n<1\/999999999<n
 ·rw[J9 c]at h;subst h;exact absurd rfl hm
 obtain⟨k,rfl⟩:∃k:Nat,n=k:=⟨n.toNat,by omega⟩
 subst h;rw[E7,Mx Zo Zo,if_neg Zo]
def K3 {s:ByteArray}(h:Fv s=false):E7 s=none:=by
 rw[E7,Jd,if_pos rfl];rintro n h1 h2 rfl;rw[(Je h1 h2).1]at h;cases h
def Qf {s:ByteArray}(h:∀n,Lib.atoiAll (DY s).data.toList≠ .ok n):E7 s=none:=by
 rw[E7,Jd,if_pos rfl];rintro n h1 h2 rfl;exact h n (by rw[(Je h1 h2).2];exact OE h1 h2)
def OF {s:ByteArray}{n:Int}(h:Lib.atoiAll (DY s).data.toList= .ok n)(h2:Ao n≠s):E7 s=none:=by
 rw[E7,Jd,if_pos rfl];rintro m h3 h4 rfl;rw[(Je h3 h4).2,OE h3 h4]at h;injection h with h
 exact h2 (by rw[<-h])
def Jf {s:ByteArray}{n:Int}(h:E7 s=some n):1<=n/\n<=999999999/\Ao n=s:=by
 rw[E7]at h;split at h
 ·cases h
 rename_i h0;have:=UH h0
 injection h with h
 subst h;exact⟨by omega,by omega,this.2.2⟩
noncomputable def En (ns:List ByteArray):List Int:=ns.filterMap E7
def UI {ns:List ByteArray}{i:Nat}{s:ByteArray}{n:Int}(h:ns[i]? =some s)(h2:E7 s=some n):En (ns.take (i+1))=En (ns.take i)++[n]:=by
 obtain⟨hi,rfl⟩:=List.getElem?_eq_some_iff.1 h;rw[En,AaJ hi,List.filterMap_append,List.filterMap_cons_some h2];rfl
def Ka {ns:List ByteArray}{i:Nat}{s:ByteArray}(h:ns[i]? =some s)(h2:E7 s=none):En (ns.take (i+1))=En (ns.take i):=by
 obtain⟨hi,rfl⟩:=List.getElem?_eq_some_iff.1 h;rw[En,AaJ hi,List.filterMap_append,List.filterMap_cons_none h2,List.filterMap_nil,Aax];rfl
def OG (ns:List ByteArray)(i:Nat):(En (ns.take i)).length<=ns.length:=Aaa (List.length_filterMap_le _ _) Zt
def Eg (l:List Int):List Int:=l.mergeSort (λx y=>decide (x<=y))
noncomputable def AM (pl:List PF):List Int:=Eg (En (BV pl))
def Fw (l:List Int):(Eg l).Perm l:=Ab0 _ _
def Ir (l:List Int):(Eg l).Pairwise (·<=·):=(List.pairwise_mergeSort (le:=λx y=>decide (x<=y)) (λa b c h1 h2=>by simp only[decide_eq_true_eq]at*;omega) (λa b=>by simp only[Abp,decide_eq_true_eq];omega) l).imp λh=>by simpa using h
def sorted_unique :∀{l m:List Int},l.Perm m->l.Pairwise (·<=·)->m.Pairwise (·<=·)->l=m:=λp h1 h2=>p.eq_of_pairwise (λa b _ _ h h'=>by omega) h1 h2
def CF {pl:List PF}{n:Int}:n∈AM pl↔1<=n/\n<=999999999/\CN pl (Ao n)=true:=by
 rw[AM,(Fw _).mem_iff,En,List.mem_filterMap];constructor
 ·rintro⟨s,hs,h⟩;have h3:=Jf h;rw[BV,BN.mem_iff]at hs;obtain⟨f,hf,rfl⟩:=List.mem_map.1 hs;exact⟨h3.1,h3.2.1,Bu.2 ⟨f,hf,h3.2.2.symm⟩⟩
 rintro⟨h1,h2,h3⟩;obtain⟨f,hf,e⟩:=Bu.1 h3;refine⟨Ao n,?_,?_⟩
 ·rw[BV,BN.mem_iff];exact List.mem_map.2 ⟨f,hf,e⟩
 obtain⟨k,rfl⟩:∃k:Nat,n=k:=⟨n.toNat,by omega⟩
 rw[E7,Mx Zo Zo,if_neg Zo]
def OH {pl:List PF}(h:(pl.map (·.name)).Nodup):(AM pl).Nodup:=by
 rw[AM,(Fw _).nodup_iff,En];have h2:(BV pl).Nodup:=BN.nodup_iff.2 h;rw[List.Nodup,List.pairwise_filterMap];exact h2.imp λ{a b} hne x hx y hy e=>hne (by rw[<-(Jf hx).2.2,<-(Jf hy).2.2,e])
def HX {pl:List PF}(h:(pl.map (·.name)).Nodup):(AM pl).Pairwise (·<·):=
 (List.pairwise_and_iff.2 ⟨Ir _,OH h⟩).imp λ⟨h1,h2⟩=>by have:_≠_:=h2;omega
def EM (pl:List PF):(AM pl).length<=pl.length:=by
 rw[AM,(Fw _).length_eq,En];refine Aaa (List.length_filterMap_le _ _) ?_;rw[BV,BN.length_eq,Aad];exact Aac _
def B1 (n:Int):(Ao n).size<=13:=by
 by_cases c:n<1\/999999999<n
 ·rw[J9 c];decide
 rw[KY c,ByteArray.size_append,logB_size];have:=OC (n:=n) Zo Zo
 have e:(⟨(Lib.itoa n).toArray⟩:ByteArray).size=(Lib.itoa n).length:=rfl;omega
section
open Go.RowKit Go.Sort Go.Shelf
def sortZ_nil :Eg []=[]:=by simp[Eg]
def Qg (s:ByteArray):(DY s).size<=s.size:=by
 rw[DY,ByteArray.size_extract];omega
def YU {a:Option Addr}{xs:List Int}{c:Nat}{w:World}(hs:Af w 3 a c xs)(hl:xs.length<=4294967295):
  Calls prog 214 #[.slice a xs.length c] w (AU λv w'=>v= .tuple #[]/\Af w' 3 a c (Eg xs)/\Ae (own a) w w'):=by
 rcases hs.2 with⟨e,h0⟩|⟨g,cap,cur,e,h3,h4,h5,h6,h7,h8⟩
 ·have:xs=[]:=AaM h0
  subst this;injection e with e1 e2 e3
  subst e1;subst e3;exact(AnyM.slices_Sort_int_none sortI none 0 w).mono λe w' h=>⟨_,h.1,rfl,by rw[h.2,sortZ_nil];exact Af.nil _ _,by rw[h.2];exact Ae.refl _ _⟩
 injection e with e1 e2 e3
 subst e1;subst e3;have h8':cur.toList.take xs.length=AS xs:=by have e:xs.length*Enc.size Int=xs.length:=Abw _;rw[e]at h8;exact h8
 have hH:Go.Sort.Holds (Value.int .i64) w g 0 xs.toArray:=holds_of_blockI h4 (by rw[h8',Mv]);refine(AnyM.slices_Sort_int sortI g 0 c xs w hH (Array.getElem?_eq_some_iff.1 h4).1 Zo).mono λe w' he=> ?_;obtain⟨rfl,n,os,rfl⟩:=he;refine⟨_,rfl,rfl,?_,?_⟩
 ·have hr:=ownsRow_sortedI (n:=n) (os:=os) (base:=0) (ss:=xs) (ts:=xs.mergeSort λx y=>decide (x<=y)) Zs (Aal _) h4 h5 h6 h7;have e1:(xs.mergeSort λx y=>decide (x<=y)).map (Value.int .i64)=AS (Eg xs):=by rw[Mv];rfl
  rw[e1]at hr;have e2:xs.length=(Eg xs).length:=(Fw xs).length_eq.symm;rw[e2]at hr;exact hr
 have hg:=grownBy_sortedI (w:=w) (g:=g) (n:=n) (os:=os) (xs.mergeSort λx y=>decide (x<=y)).toArray;exact⟨hg.os,hg.tape,hg.output,hg.size,λk hk hne=>hg.block k hk (λe=>hne (by injection e with e;subst e;rw[CS]))⟩
end
attribute [local irreducible] Ao AM Eg En E7 Fv DY
def WV (s:ByteArray):(decide ((4:Int)<=((s.size:Nat):Int))&&decide (s.extract 0 4=(⟨#[108,111,103,46]⟩:ByteArray)))=Fv s:=by
 unfold Fv logB;have:decide ((4:Int)<=((s.size:Nat):Int))=decide (4<=s.size):=by apply decide_eq_decide.2;omega
 rw[this]
def SR {s:ByteArray}(h:Fv s=true):4<=s.size:=by unfold Fv at h;rw[Aao]at h;exact of_decide_eq_true h.1
def ST {room:Int}{pl:List PF}(h:Ce room pl){i:Nat}{s:ByteArray}(hs:(BV pl)[i]? =some s):s.size≠0/\s.size<=32:=by
 have hm:s∈BV pl:=Aan hs;rw[BV,BN.mem_iff]at hm;obtain⟨f,hf,rfl⟩:=List.mem_map.1 hm;have:=h.may f hf
 simp only[CW,Aao,decide_eq_true_eq]at this;omega
attribute [local irreducible] X
def CJ (n:Int)(w:World)(hL:A5 w):
  Calls prog 92 #[.int .i64 n] w (AU (λv w'=>v= .string (Ao n)/\As w w')):=by
 have hLs:=hL.size;refine kD (n:=12) func92 ?_;refine kE (Er rfl rfl rfl) ?_;refine jF ?_ ?_
 ·intro hc8;refine kL func92 ?_;exact⟨_,rfl,by rw[J9 hc8],(Ae.refl _ w)⟩
 intro hc8;have hil:=OC (n:=n) Zo Zo;have hls:(⟨#[108,111,103,46]⟩:ByteArray).size=4:=rfl;have his:(⟨(Lib.itoa n).toArray⟩:ByteArray).size=(Lib.itoa n).length:=rfl;refine jG ?_;refine kS (hY n _ Zo Zo hL.tab) ?_;rintro _ a1 ⟨rfl,a0⟩;have K0:=(a0:As w _);refine kE (YG rfl rfl Zo) ?_;refine jJ func92 ?_;exact⟨_,rfl,by rw[KY Zo];unfold logB;rfl,K0⟩
def WW (s:ByteArray)(w:World):
  Calls prog 289 #[.string s,.string (⟨#[108,111,103,46]⟩)] w (AU (λv w'=>v= .bool (Fv s)/\As w w')):=by
 refine kD (n:=18) func289 ?_;refine kE (DT underlying9 rfl) ?_;refine kE (AA (c:=4) (DT underlying9 rfl) rfl) ?_;refine jW ?_ (hx:=by exact λhg=>(AA (c:=4) (DT underlying9 (B4 hg)) rfl));refine jW ?_ (hx:=by exact λhg=>(Sn (j:=4) underlying9 (B4 hg) (B4 hg) (by simp only[br]at hg;omega)));refine jG ?_;refine jW ?_ (hx:=by exact λhg=>(T4 (B4 hg) (B4 hg)));refine kE (Bo rfl rfl rfl) ?_;refine jJ func289 ?_;exact⟨_,rfl,by rw[WV],(Ae.refl _ w)⟩
def WX (s:ByteArray)(w:World):
  Calls prog 256 #[.string s,.string (⟨#[108,111,103,46]⟩)] w (AU (λv w'=>(Fv s=true/\v= .tuple #[.string (DY s),.bool true]/\As w w')\/(Fv s=false/\v= .tuple #[.string s,.bool false]/\As w w'))):=by
 refine kD (n:=15) func256 ?_;refine kS (WW s _) ?_;rintro _ a1 ⟨rfl,a0⟩;have K0:=(a0:As w _);refine kK ?_ ?_
 ·intro hc9;refine kM func256 ?_;exact⟨_,rfl,.inr ⟨by simpa using hc9,rfl,K0⟩⟩
 intro hc9;have hPs:=SR (s:=s) (by simpa using hc9);refine jG ?_;refine jV (AA (c:=4) (DT underlying9 rfl) rfl) ?_;refine kE (JG (i:=4) underlying9 rfl rfl Zo) ?_;refine jK func256 ?_;exact⟨_,rfl,.inl ⟨by simpa using hc9,by unfold DY;rfl,K0⟩⟩
def WY (s:ByteArray)(w:World):
  Calls prog 212 #[.string s,.string (⟨#[108,111,103,46]⟩)] w (AU (λv w'=>(Fv s=true/\v= .tuple #[.string (DY s),.bool true]/\As w w')\/(Fv s=false/\v= .tuple #[.string s,.bool false]/\As w w'))):=by
 refine kD (n:=11) func212 ?_;refine kS (WX s _) ?_;rintro _ a3 a0;rcases a0 with a0|a0
 ·obtain⟨hPre,rfl,a1⟩:=a0;have K0:=(a1:As w _);refine kM func212 ?_;exact⟨_,rfl,.inl ⟨hPre,rfl,K0⟩⟩
 obtain⟨hPre,rfl,a2⟩:=a0;have K0:=(a2:As w _);refine kM func212 ?_;exact⟨_,rfl,.inr ⟨hPre,rfl,K0⟩⟩
def UJ (b d:Nat)(F:Nat->Prop)(room:Int)(pl:List PF)(w:World)(hb:AC w b [jp d] 161)(hD:AJ w d F room pl)(hbd:¬F b)(hL:A5 w):
  Calls prog 154 #[jp b] w (AU (λv w'=>∃a' c',v= .slice a' (AM pl).length c'/\Af w' 3 a' c' (AM pl)/\(∀q,own a' q->w.heap.size<=q)/\As w w')):=by
 have hLs:=hL.size;have hok:=hD.ok;have hlen:=hok.len;have hsl:=EM pl;have hnl:(BV pl).length<=64:=by rw[BV,BN.length_eq,Aad];exact hlen
 refine kD (n:=58) func154 ?_;refine kE (DK (DB underlying222 rfl rfl) rfl) ?_;refine jT<|jO (DK (DB underlying23 rfl rfl) rfl) ?_;refine kE (Ed rfl rfl rfl) ?_;refine kH ?_;refine kS (YO hD) ?_;rintro _ aq ⟨aj,am,rfl,a0,ar,ak⟩;clear ar;have K0:=(ak:As w _);refine jG ?_;replace hb:=hb.ext ak;replace hD:=hD.ext ak;replace hL:=hL.ext ak;refine Ai.loop (ι:=Nat) (λi ρ' w'=>∃az:Option Addr,∃cz:Nat,Holds ρ' [(3,.slice az ((En ((BV pl).take i)).length) cz),(23,.slice aj ((BV pl).length) am),(24,.int .i64 (((BV pl).length:Nat):Int)),(25,.int .i64 ((i:Nat):Int))]/\As w w'/\(AC w' b [jp d] 161)/\(A5 w')/\(AJ w' d F room pl)/\(Af w' 9 aj am (BV pl))/\(Af w' 3 az cz (En ((BV pl).take i)))/\(¬own az b)/\(∀q_,own az q_->¬F q_)/\(∀q_,own az q_->¬own aj q_)/\(∀q_,own az q_->w.heap.size<=q_)/\(i<=(BV pl).length)) (λi=>(BV pl).length-i) 0 ?_ ?_
 ·rw[show En ((BV pl).take 0)=[]by rw[AaF];unfold En;rfl];have au:=Af.nil (α:=Int) aq 3;refine⟨_,_,⟨rfl,rfl,rfl,rfl,trivial⟩,K0,hb,hL,hD,a0,au,(Ad b),(λq_ h1 _=>Ad q_ h1),(λq_ h1 _=>Ad q_ h1),(λq_ h1=>absurd h1 (Ad q_)),?_⟩;omega
 clear hb hD a0;clear K0;rintro i aF aG ⟨az,cz,ao,K0,hb,hL,hD,a0,a1,a3,a4,a5,a2,hi⟩ ih1;obtain⟨ρ₀,rfl⟩:=ao.ex;clear ao;refine kK ?_ ?_
 ·intro hc26;obtain⟨aH,aI,s,hs,aJ,aK⟩:=a0.sl.eo i;have hsm:=ST hok hs;have hil:=OG (BV pl) i;have hrs:=Qg s;refine jG ?_;refine kS (WY s _) ?_;rintro _ aL ae;rcases ae with ae|ae
  ·obtain⟨hPre,rfl,a6⟩:=ae;refine jG ?_;replace hL:=hL.ext a6;refine kS (Yg (DY s) _ Zo hL) ?_;rintro _ aM af;replace hb:=hb.ext a6;replace hD:=hD.ext a6;replace a0:=a0.ext a6;replace a1:=a1.ext a6;replace K0:=K0.ext a6;rcases af with af|af
   ·obtain⟨an,hAn,rfl,a7⟩:=af;refine Ii ?_;refine jV (Cy (v:= .nilIface) rfl) ?_;refine ET ?_;refine jT<|jO (D5 (v:= .nilIface) rfl) ?_;refine jT<|jO (YI Zk rfl rfl) ?_;refine kE (BP rfl rfl rfl) ?_;replace hL:=hL.ext a7;refine jT<|jC (CJ an _ hL) ?_;rintro _ aN ⟨rfl,a8⟩;refine jG ?_;refine jT<|jO (T4 rfl rfl) ?_;refine kE (BP rfl rfl rfl) ?_;replace hb:=(hb.ext a7).ext a8;replace hD:=(hD.ext a7).ext a8;replace a0:=(a0.ext a7).ext a8;replace a1:=(a1.ext a7).ext a8;replace K0:=(K0.ext a7).ext a8;replace hL:=hL.ext a8;refine jF ?_ ?_
    ·intro hc49;refine jG ?_;refine jR<|AB.buildSlice ([an]:List Int) underlying185 ty3 rfl rfl Ze ?_;intro aO aP av aw a9;clear av;replace a1:=a1.ext a9;refine jR<|AB.append (xs:=En ((BV pl).take i)) (ys:=([an]:List Int)) underlying185 ty3 rfl rfl rfl a1 aw.sl Zr Zd ?_;intro al aQ aR ax ag ah ay;replace hb:=hb.ext a9;have aA:¬own al b:=ah.not a3 hb.lt;replace hD:=hD.ext a9;have aB:∀q_,own al q_->¬F q_:=ah.apart a4 hD.oL;replace a0:=a0.ext a9;have aC:∀q_,own al q_->¬own aj q_:=ah.apart a5 a0.oL;replace K0:=K0.ext a9;have aD:∀q_,own al q_->w.heap.size<=q_:=ah.ge a2 K0.size;clear ah;clear ay;refine jG ?_;refine kC i ?_;have e:=UI hs (WU hsm.1 hc49);refine ih1 (i+1) _ _ ?_ Zo;rw[e];replace hL:=(hL.ext a9).keep ag (λq_ hq_=>Aaa hLs (a2 q_ hq_));replace hb:=hb.keep ag a3;replace hD:=hD.kO ag (Zf a4);replace a0:=a0.kO ag (Zf a5);replace K0:=K0.new ag a2;refine⟨_,_,⟨rfl,rfl,rfl,rfl,trivial⟩,K0,hb,hL,hD,a0,ax,aA,aB,aC,aD,?_⟩
     omega
    intro hc49;refine jG ?_;refine kC i ?_;have e:=Ka hs (OF hAn hc49);refine ih1 (i+1) _ _ ?_ Zo;rw[e];refine⟨_,_,⟨rfl,rfl,rfl,rfl,trivial⟩,K0,hb,hL,hD,a0,a1,a3,a4,a5,a2,?_⟩;omega
   obtain⟨hAn,en_,et_,ep_,rfl,aa⟩:=af;refine Ii ?_;refine jV (Cy (v:= .iface et_ (.pointer ep_)) rfl) ?_;refine ET ?_;refine jT<|jO (D5 (v:= .iface et_ (.pointer ep_)) rfl) ?_;refine jT<|jO (YH Zk rfl rfl) ?_;refine kE (BP rfl rfl rfl) ?_;refine kE (Bo (b:=false) (e:=false) rfl rfl rfl) ?_;refine kH ?_;refine kC i ?_;have e:=Ka hs (Qf hAn);refine ih1 (i+1) _ _ ?_ Zo;rw[e];replace hb:=hb.ext aa;replace hL:=hL.ext aa;replace hD:=hD.ext aa;replace a0:=a0.ext aa;replace a1:=a1.ext aa;replace K0:=K0.ext aa;refine⟨_,_,⟨rfl,rfl,rfl,rfl,trivial⟩,K0,hb,hL,hD,a0,a1,a3,a4,a5,a2,?_⟩
   omega
  obtain⟨hPre,rfl,ab⟩:=ae;refine jG ?_;replace hL:=hL.ext ab;refine kS (Yg s _ Zo hL) ?_;rintro _ aS ai;replace hb:=hb.ext ab;replace hD:=hD.ext ab;replace a0:=a0.ext ab;replace a1:=a1.ext ab;replace K0:=K0.ext ab;rcases ai with ai|ai
  ·obtain⟨an,hAn,rfl,ac⟩:=ai;refine Ii ?_;refine kE (Cy (v:= .nilIface) rfl) ?_;refine kE (Bo (b:=false) (e:=false) rfl rfl rfl) ?_;refine kE (Bo (b:=false) (e:=false) rfl rfl rfl) ?_;refine kH ?_;refine kC i ?_;have e:=Ka hs (K3 hPre);refine ih1 (i+1) _ _ ?_ Zo;rw[e];replace hb:=hb.ext ac;replace hL:=hL.ext ac;replace hD:=hD.ext ac;replace a0:=a0.ext ac;replace a1:=a1.ext ac;replace K0:=K0.ext ac;refine⟨_,_,⟨rfl,rfl,rfl,rfl,trivial⟩,K0,hb,hL,hD,a0,a1,a3,a4,a5,a2,?_⟩;omega
  obtain⟨hAn,en_,et_,ep_,rfl,ad⟩:=ai;refine Ii ?_;refine kE (Cy (v:= .iface et_ (.pointer ep_)) rfl) ?_;refine kE (Bo (b:=false) (e:=false) rfl rfl rfl) ?_;refine kE (Bo (b:=false) (e:=false) rfl rfl rfl) ?_;refine kH ?_;refine kC i ?_;have e:=Ka hs (K3 hPre);refine ih1 (i+1) _ _ ?_ Zo;rw[e];replace hb:=hb.ext ad;replace hL:=hL.ext ad;replace hD:=hD.ext ad;replace a0:=a0.ext ad;replace a1:=a1.ext ad;replace K0:=K0.ext ad;refine⟨_,_,⟨rfl,rfl,rfl,rfl,trivial⟩,K0,hb,hL,hD,a0,a1,a3,a4,a5,a2,?_⟩;omega
 intro hc26;have hil:=OG (BV pl) i;refine jG ?_;refine kS (YU a1 Zo) ?_;rintro _ aT ⟨rfl,ap,aE⟩;replace a1:=ap;clear ap;refine kL func154 ?_;have hie:i=(BV pl).length:=by omega
 subst hie;rw[Aap]at a1;have e_:Eg (En (BV pl))=AM pl:=by unfold AM;rfl
 have e2_:(En ((BV pl).take (BV pl).length)).length=(AM pl).length:=by rw[Aap,<-e_,(Fw _).length_eq]
 rw[e_]at a1;rw[e2_];replace K0:=K0.new aE a2;exact⟨_,rfl,az,cz,rfl,a1,a2,K0⟩
end Go.Proofs.YtjkaicjmfgekjaaGreatDoor
namespace Go.Proofs.YtjkaicjmfgekjaaGreatDoor
open Go.Proofs.Tryz
attribute [local irreducible] RD RS AB RL RA RT CB Ai crcN CV CP F6 Co leL C9 Ao AM Eg En E7 Fv DY
structure RB where
 a:Option Addr
 c:Nat
 b:List UInt8
def RB.h (r:RB):SH:=⟨r.a,r.b.length,r.c⟩
def Az (rs:List RB):Nat->Prop:=λq=>∃r∈rs,own r.a q
def Bk (w:World)(rs:List RB):Prop:=∀r∈rs,Af w 5 r.a r.c r.b
section
variable {w w':World}{S:Nat->Prop}{rs ss:List RB}{r:RB}
def Bk.oL (h:Bk w rs):∀q,Az rs q->q<w.heap.size:=λq ⟨r,hr,hq⟩=>(h r hr).oL q hq
def Bk.kO (h:Bk w rs)(k:Ae S w w')(hn:∀q,Az rs q->¬S q):Bk w' rs:=λr hr=>(h r hr).kO k (λq hq=>hn q ⟨r,hr,hq⟩)
def Bk.ext (h:Bk w rs)(k:As w w'):Bk w' rs:=h.kO k λ_ _=>id
def Bk.nil (w:World):Bk w []:=λ_ h=>absurd h Zs
def Bk.app (h:Bk w rs)(h2:Bk w ss):Bk w (rs++ss):=λr hr=>(List.mem_append.1 hr).elim (h r) (h2 r)
def Bk.snoc (h:Bk w rs){a:Option Addr}{c:Nat}{b:List UInt8}(h2:Af w 5 a c b):Bk w (rs++[⟨a,c,b⟩]):=h.app λr hr=>by simp only[Aah]at hr;subst hr;exact h2
def Bk.sub (h:Bk w rs)(hs:∀r∈ss,r∈rs):Bk w ss:=λr hr=>h r (hs r hr)
def recs_case :∀q,Az (rs++ss) q->Az rs q\/Az ss q:=λq ⟨r,hr,hq⟩=>(List.mem_append.1 hr).elim (λh=> .inl ⟨r,h,hq⟩) (λh=> .inr ⟨r,h,hq⟩)
def AG {a:Option Addr}{c:Nat}{b:List UInt8}:∀q,Az (rs++[⟨a,c,b⟩]) q->own a q\/Az rs q:=λq h=>(recs_case q h).elim .inr (λ⟨r,hr,hq⟩=>by simp only[Aah]at hr;subst hr;exact .inl hq)
def F7 (hs:∀r∈ss,r∈rs):∀q,Az ss q->Az rs q:=λq ⟨r,hr,hq⟩=>⟨r,hs r hr,hq⟩
def WZ (h:Bk w rs){j:Nat}{s:SH}(hs:(rs.map RB.h)[j]? =some s):∃r,rs[j]? =some r/\s=r.h/\Af w 5 r.a r.c r.b:=by
 rw[Aaz,Aby]at hs;obtain⟨r,hr,rfl⟩:=hs;exact⟨r,hr,rfl,h r (Aan hr)⟩
end
structure UK (w:World)(a:Option Addr)(xs:List UInt8):Prop where
 sl:Ax w a xs
 lt:∀q,own a q->q<w.heap.size
def UK.oL {w:World}{a:Option Addr}{xs:List UInt8}(h:UK w a xs):∀q,own a q->q<w.heap.size:=h.lt
def UK.kO {S:Nat->Prop}{w w':World}{a:Option Addr}{xs:List UInt8}(h:UK w a xs)(k:Ae S w w')(hn:∀q,own a q->¬S q):UK w' a xs:=⟨h.sl.keep k (λx hx=>hn _ ⟨x,hx,rfl⟩),λq hq=>Aa4 (h.lt q hq) k.size⟩
def UK.ext {w w':World}{a:Option Addr}{xs:List UInt8}(h:UK w a xs)(k:As w w'):UK w' a xs:=h.kO k λ_ _=>id
def Af.slo {w:World}{T:TypeId}{a:Option Addr}{c:Nat}{xs:List UInt8}(h:Af w T a c xs):UK w a xs:=⟨h.sl,h.oL⟩
def A0 (b:List UInt8):List (List UInt8)×List UInt8:=
 if b=[]then([],[])else match h:C9 b with
 | .error _=>([],b)
 | .ok (p,r)=>(p::(A0 r).1,(A0 r).2)
termination_by b.length
decreasing_by all_goals (have:=(KX h).1;omega)
def framesR_nil :A0 []=([],[]):=by rw[A0];simp
def JK {b:List UInt8}{e:Int}(h0:b≠ [])(h:C9 b= .error e):A0 b=([],b):=by
 rw[A0,if_neg h0];split
 ·rfl
 rename_i h2;rw[h]at h2;cases h2
def HY {b p r:List UInt8}(h0:b≠ [])(h:C9 b= .ok (p,r)):A0 b=(p::(A0 r).1,(A0 r).2):=by
 rw[A0,if_neg h0];split
 ·rename_i h2;rw[h]at h2;cases h2
 rename_i h2;rw[h]at h2;cases h2;rfl
def framesR_len : ∀ (b : List UInt8), (A0 b).1.length * 5 + (A0 b).2.length <= b.length := λb => by
  induction hb : b.length using Nat.strongRecOn generalizing b with
  | _ k ih =>
    by_cases h0 : b = []
    · subst h0; rw [framesR_nil]; simp
    cases h : C9 b with
    | error e => rw [JK h0 h]; simp; omega
    | ok q =>
      obtain ⟨p, r⟩ := q;have h2 := (KX h).1;have := ih r.length Zo r rfl;rw [HY h0 h];simp only [Aaj];omega
def Dt {b:List UInt8}(h:0<b.length):b≠ []:=λe=>by subst e;exact absurd h Zd
def freshN :ByteArray:=⟨#[108,111,103,46,110,101,119]⟩
noncomputable def AT (pl:List PF):Int:=((AM pl).getLast?).getD 0
def BR (room:Int)(pl:List PF)(b:List UInt8)(n:Int):Int×List PF:=
 if Df room pl freshN b=0 then
  if CX (Do room pl freshN b) freshN=0 then(E9 (Cq (Do room pl freshN b) freshN) freshN (Ao n),HD (Cq (Do room pl freshN b) freshN) freshN (Ao n))
  else(CX (Do room pl freshN b) freshN,Cq (Do room pl freshN b) freshN)
 else(Df room pl freshN b,Do room pl freshN b)
def Cs (pl:List PF)(ns:List Int):List PF:=pl.filter λf=> !ns.any λn=>decide (f.name=Ao n)
def Gz (room:Int)(pl:List PF)(b:List UInt8)(n:Int)(rest:List Int):Int×List PF:=
 if b=[]then(0,Cs (Br pl (Ao n)) rest)else if (BR room pl b n).1=0 then(0,Cs (BR room pl b n).2 rest)else BR room pl b n
def Jg (pl:List PF):Cs pl []=pl:=by rw[Cs,AaU];simp
def K8 (pl:List PF)(n:Int)(ns:List Int):Cs pl (n::ns)=Br (Cs pl ns) (Ao n):=by
 rw[Cs,Br,Cs,AbX];refine List.filter_congr λf _=> ?_;by_cases h:f.name=Ao n<;>simp[h]
section
variable {room :Int}{pl:List PF}{b:List UInt8}{n m:Int}
def Nx {s t:ByteArray}(h:CN pl s=true)(hne:s≠t):CN (Br pl t) s=true:=by
 obtain⟨f,hf,rfl⟩:=Bu.1 h;exact Bu.2 ⟨f,List.mem_filter.2 ⟨hf,by simpa using hne⟩,rfl⟩
def Ny {s t:ByteArray}{u:PF->PF}(hu:∀f,(u f).name=f.name)(h:CN pl s=true):CN (DW pl t u) s=true:=by
 obtain⟨f,hf,rfl⟩:=Bu.1 h;refine Bu.2 ⟨_,List.mem_map.2 ⟨f,hf,rfl⟩,?_⟩;split
 ·exact hu f
 rfl
def Nz {s t:ByteArray}(h:CN pl s=true):CN (Do room pl t b) s=true:=by
 rw[Do];split
 ·split
  ·exact Ny (λ_=>rfl) h
  obtain⟨f,hf,rfl⟩:=Bu.1 h;exact Bu.2 ⟨f,AaQ _ hf,rfl⟩
 exact h
def W7 {s t t2:ByteArray}(h:CN pl s=true)(h1:s≠t)(h2:s≠t2):CN (HD pl t t2) s=true:=by
 rw[HD];split
 ·split
  ·obtain⟨f,hf,rfl⟩:=Bu.1 (Nx (Nx h h1) h2);exact Bu.2 ⟨f,AaQ _ hf,rfl⟩
  exact h
 exact h
def OI {s:ByteArray}(h:CN pl s=true)(h1:s≠freshN)(h2:s≠Ao n):CN (BR room pl b n).2 s=true:=by
 rw[BR];split
 ·split
  ·exact W7 (Ny (λ_=>rfl) (Nz h)) h1 h2
  exact Ny (λ_=>rfl) (Nz h)
 exact Nz h
def Hm (n:Int):Ao n≠freshN:=by
 intro e;by_cases c:n<1\/999999999<n
 ·rw[J9 c]at e;exact absurd e Zd
 obtain⟨k,rfl⟩:∃k:Nat,n=k:=⟨n.toNat,by omega⟩
 have h1:=Fu (n:=k) Zo Zo;rw[e]at h1;have h2:=dec_dig k;have h3:Lib.decDigits k=[110,101,119]:=by
  have:freshN.data.toList=[108,111,103,46]++[110,101,119]:=rfl
  rw[this]at h1;exact(List.append_cancel_left h1).symm
 have:=h2 110 (by rw[h3];simp)
 exact absurd this.2 Zd
def Da {n:Int}(h1:1<=n)(h2:n<=999999999):CW (Ao n)=true:=by
 obtain⟨k,rfl⟩:∃k:Nat,n=k:=⟨n.toNat,by omega⟩
 have hs:=B1 (k:Int);have hl:=Fu (n:=k) Zo Zo;have hne:(Ao (k:Int)).size≠0:=by
  have h3:=congrArg List.length hl;rw[AaA,Aab]at h3;have h4:(Ao (k:Int)).size=(Ao (k:Int)).data.size:=rfl;simp only[Aaj]at h3;omega
 rw[CW,Aao,Aao,decide_eq_true_iff,decide_eq_true_iff];refine⟨?_,hne,by omega⟩;rw[hl,List.all_append,Aao];refine⟨by decide,List.all_eq_true.2 λc hc=> ?_⟩;have:=dec_dig k c hc
 rw[Wr,decide_eq_true_iff];exact .inr (.inr (.inr (.inl ⟨this.1,this.2⟩)))
def DZ {s:ByteArray}(hm:CW s=true)(h:CN pl s=true):CX pl s=0:=by rw[CX,if_pos hm,if_pos h]
def Is (h:n∈AM pl):CX pl (Ao n)=0:=by
 obtain⟨h1,h2,h3⟩:=CF.1 h;exact DZ (Da h1 h2) h3
def Fx {n m:Int}(h1:1<=n)(h2:n<=999999999)(h3:1<=m)(h4:m<=999999999)(e:Ao n=Ao m):n=m:=by
 obtain⟨k,rfl⟩:∃k:Nat,n=k:=⟨n.toNat,by omega⟩
 obtain⟨j,rfl⟩:∃j:Nat,m=j:=⟨m.toNat,by omega⟩
 have:=Mw Zo Zo Zo Zo e
 omega
def La {s:ByteArray}{ns:List Int}(h:CN pl s=true)(hne:∀m∈ns,s≠Ao m):CN (Cs pl ns) s=true:=by
 obtain⟨f,hf,rfl⟩:=Bu.1 h;refine Bu.2 ⟨f,List.mem_filter.2 ⟨hf,?_⟩,rfl⟩;simp only[AaH,List.any_eq_false,decide_eq_true_eq];exact λm hm e=>hne m hm e
end
structure Jh (l:List Int):Prop where
 rise:l.Pairwise (·<·)
 low:∀n∈l,1<=n/\n<=999999999
def Ry {room:Int}{pl:List PF}(h:Ce room pl):Jh (AM pl):=⟨HX h.nodup,λn hn=>by have:=CF.1 hn;exact⟨this.1,this.2.1⟩⟩
def Jh.lt {l:List Int}(h:Jh l){i j:Nat}{n m:Int}(hi:l[i]? =some n)(hj:l[j]? =some m)(hij:i<j):n<m:=by
 obtain⟨h1,rfl⟩:=List.getElem?_eq_some_iff.1 hi;obtain⟨h2,rfl⟩:=List.getElem?_eq_some_iff.1 hj;exact List.pairwise_iff_getElem.1 h.rise i j h1 h2 hij
def Jh.ne {l:List Int}(h:Jh l){i j:Nat}{n m:Int}(hi:l[i]? =some n)(hj:l[j]? =some m)(hij:i<j):Ao m≠Ao n:=λe=>by
 have h1:=h.low n (Aan hi);have h2:=h.low m (Aan hj);have h3:=h.lt hi hj hij;have:=Fx h1.1 h1.2 h2.1 h2.2 e.symm
 omega
def It {l:List Int}{j:Nat}{m:Int}(h:l[j]? =some m):l.drop j=m::l.drop (j+1):=by
 obtain⟨h1,rfl⟩:=List.getElem?_eq_some_iff.1 h;exact AbC h1
def SU {pl:List PF}(h:(AM pl).length=0):AT pl=0:=by rw[AT,AaM h];rfl
def W8 {pl:List PF}{x:Int}(h:(AM pl)[(AM pl).length-1]? =some x):AT pl=x:=by rw[AT,Acf,h];rfl
def UL {room : Int} {pl : List PF} (h : Ce room pl) (s : ByteArray) : Iq pl s <= 16777216 := by
  rw [Iq];cases hl : CD pl s with
  | none => simp
  | some f =>
    have h1 := Mj (KH hl).1;have h2 := h.used;have h3 := h.room.2;simp only [AaL, AbE];omega
attribute [local irreducible] X
def UM (b d:Nat)(F:Nat->Prop)(room:Int)(pl:List PF)(w:World)(hb:AC w b [jp d] 161)(hD:AJ w d F room pl)(hbd:¬F b)(hL:A5 w):
  Calls prog 91 #[jp b] w (AU (λv w'=>v= .int .i64 (AT pl)/\As w w')):=by
 have hLs:=hL.size;have hok:=hD.ok;have hlen:=hok.len;have hsl:=EM pl;refine kD (n:=15) func91 ?_;refine kS (UJ _ _ _ _ _ _ hb hD hbd hL) ?_;rintro _ a3 ⟨a4,a5,rfl,a1,a2,a0⟩;clear a2;have K0:=(a0:As w _);refine jG ?_;replace hb:=hb.ext a0;replace hD:=hD.ext a0;replace hL:=hL.ext a0;refine jF ?_ ?_
 ·intro hc8;refine kL func91 ?_;exact⟨_,rfl,by rw[SU Zo],K0⟩
 intro hc8;refine jG ?_;refine jV (AA (c:=(((AM pl).length-1:Nat):Int)) (B8 rfl rfl Zo Zo) Zo) ?_;obtain⟨a6,a7,x,hx,a8,a9⟩:=a1.sl.el (i:=(AM pl).length-1) Zl;refine kL func91 ?_;exact⟨_,rfl,by rw[W8 hx],K0⟩
def W9 (a:Option Addr)(xs:List UInt8)(c:Nat)(w:World)(hs:UK w a xs)(hl:xs.length<=1073741824):
  Calls prog 177 #[.slice a xs.length c] w (AU (λv w'=>∃a' c',∃rs:List RB,v= .tuple #[.slice a' (rs.map RB.h).length c',.int .i64 ((xs.length-(A0 xs).2.length:Nat):Int)]/\Af w' 98 a' c' (rs.map RB.h)/\Bk w' rs/\rs.map RB.b=(A0 xs).1/\(∀q,own a' q->w.heap.size<=q)/\(∀q,Az rs q->w.heap.size<=q)/\(∀q,own a' q->¬Az rs q)/\As w w')):=by
 refine Ac (n:=32) func177 rfl rfl rfl ?_;have hR:Bk w ([]:List RB):=Bk.nil w;refine jG ?_;refine Ai.loop (ι:=List UInt8) (λlf ρ' w'=>∃rs:List RB,∃ao:Option Addr,∃co:Nat,∃al:Option Addr,∃cl:Nat,Holds ρ' [(0,.slice a xs.length c),(4,.slice ao ((rs.map RB.h).length) co),(5,.slice al lf.length cl)]/\As w w'/\(Bk w' rs)/\(UK w' al lf)/\(Af w' 98 ao co (rs.map RB.h))/\(∀q_,Az rs q_->¬own al q_)/\(∀q_,Az rs q_->¬own ao q_)/\(∀q_,Az rs q_->w.heap.size<=q_)/\(∀q_,own ao q_->¬own al q_)/\(∀q_,own ao q_->w.heap.size<=q_)/\(rs.length+lf.length<=xs.length)/\(lf.length<=xs.length)/\(rs.map RB.b++(A0 lf).1=(A0 xs).1)/\((A0 xs).2=(A0 lf).2)) (λlf=>lf.length) xs ?_ ?_
 ·have au:=Af.nil (α:=SH) w 98;refine⟨[],_,_,_,_,⟨rfl,rfl,rfl,trivial⟩,(Ae.refl _ w),hR,hs,au,(λq_ ⟨_,h_,_⟩ _=>absurd h_ Zs),(λq_ h1 h2=>(λq_ h1 _=>Ad q_ h1) q_ h2 h1),(λq_ ⟨_,h_,_⟩=>absurd h_ Zs),(λq_ h1 _=>Ad q_ h1),(λq_ h1=>absurd h1 (Ad q_)),?_,?_,?_,?_⟩
  ·exact Nat.le_of_eq (Aaq _)
  ·exact Aac _
  ·rfl
  rfl
 clear hs hR;rintro lf aN aO ⟨rs,ao,co,al,cl,ai,K0,a0,av,a4,aP,ab,af,aQ,ac,hrs,hll,hFr,hFr2⟩ ih1;obtain⟨ρ₀,rfl⟩:=ai.ex;clear ai;refine kK ?_ ?_
 ·intro hc12;refine jG ?_;refine kS (UE _ _ _ _ av.sl Zo) ?_;rintro _ aR a8;rcases a8 with a8|a8
  ·obtain⟨a2,aw,a1,a3,ad,aS,aj,rfl,a5,a6,ax,ak,am,ag⟩:=a8;have an:=Ag ak a4.oL;have ay:=Bg K0.size ak;have az:=Ag am a0.oL;have ap:=Ag am a4.oL;refine jG ?_;refine Ai.condF rfl ?_;have hrl:(rs.map RB.h).length=rs.length:=Aad ..;refine jG ?_;refine jR<|AB.buildSlice ([⟨a1,a2.length,a3⟩]:List SH) underlying130 ty98 rfl rfl Ze ?_;intro aT aU aA aB a9;clear aA;replace a4:=(a4.ext ag).ext a9;refine jR<|AB.append (xs:=rs.map RB.h) (ys:=([⟨a1,a2.length,a3⟩]:List SH)) underlying130 ty98 rfl rfl rfl a4 aB.sl Zr Zd ?_;intro a7 aV aC aq ae aa aD;replace a0:=(a0.ext ag).ext a9;have aE:∀q_,own a7 q_->¬Az rs q_:=aa.apart (Zf ab) a0.oL;replace a5:=a5.ext a9;have aF:∀q_,own a7 q_->¬own a1 q_:=aa.apart (Zf an) a5.oL;replace a6:=a6.ext a9;have aG:∀q_,own a7 q_->¬own ad q_:=aa.apart (Zf ap) a6.oL;replace K0:=(K0.ext ag).ext a9;have aH:∀q_,own a7 q_->w.heap.size<=q_:=aa.ge ac K0.size;clear aa;clear aD;have eRR:(rs.map RB.h)++([⟨a1,a2.length,a3⟩]:List SH)=(rs++([⟨a1,a3,a2⟩]:List RB)).map RB.h:=by rw[Aam];rfl
   rw[eRR]at aq⊢;replace a0:=a0.kO ae ab;replace a5:=a5.kO ae an;have hR':Bk aC (rs++([⟨a1,a3,a2⟩]:List RB)):=Bk.snoc a0 a5;have aI:∀q_,Az (rs++([⟨a1,a3,a2⟩]:List RB)) q_->¬own ad q_:=λq_ x_ z_=>(AG _ x_).elim (λy_=>ax q_ y_ z_) (λy_=>(λy_=>(Zf az) q_ y_ z_) y_);have aJ:∀q_,Az (rs++([⟨a1,a3,a2⟩]:List RB)) q_->¬own a7 q_:=λq_ x_ z_=>(AG _ x_).elim (λy_=>(Zf aF) q_ y_ z_) (λy_=>(λy_=>(Zf aE) q_ y_ z_) y_);have aK:∀q_,Az (rs++([⟨a1,a3,a2⟩]:List RB)) q_->w.heap.size<=q_:=λq_ x_=>(AG _ x_).elim (λy_=>ay q_ y_) (λy_=>(λy_=>af q_ y_) y_);replace a6:=a6.kO ae ap;have hLf:=Af.slo a6;have aL:∀q_,own ad q_->¬own a7 q_:=λq_ x_ z_=>(λy_=>(Zf aG) q_ y_ z_) ((λq_ h_=>h_) _ x_);have aM:∀q_,own ad q_->¬Az (rs++([⟨a1,a3,a2⟩]:List RB)) q_:=λq_ x_ z_=>(λy_=>(Zf aI) q_ y_ z_) ((λq_ h_=>h_) _ x_);refine jG ?_;have hU2:=HY (Dt Zo) aj;have hUl:=KX aj;refine ih1 aw _ _ ?_ Zo;replace K0:=K0.new ae ac;refine⟨rs++([⟨a1,a3,a2⟩]:List RB),_,_,_,_,⟨rfl,rfl,rfl,trivial⟩,K0,hR',hLf,aq,(Zf aM),aJ,aK,(Zf aL),aH,?_,?_,?_,?_⟩
   ·simp only[Aab,Aaj,Aas];omega
   ·omega
   ·rw[Aam,Aar,<-hFr,hU2];rfl
   rw[hFr2,hU2]
  obtain⟨aW,ar,rfl,ah⟩:=a8;have hne:=OB ar;refine jG ?_;replace a0:=a0.ext ah;replace a4:=a4.ext ah;replace K0:=K0.ext ah;refine jF ?_ ?_
  ·intro hc20;refine jG ?_;refine kE (AA (c:=((xs.length-lf.length:Nat):Int)) (B8 rfl rfl Zo Zo) Zo) ?_;refine jK func177 ?_;have hE:=JK (Dt Zo) ar;rw[hE]at hFr hFr2;simp only[Aax]at hFr;exact⟨_,rfl,ao,co,rs,by rw[hFr2],a4,a0,hFr,ac,af,(Zf ab),K0⟩
  intro hc20;exact absurd hc20 hne
 intro hc12;refine jG ?_;refine kE (AA (c:=((xs.length-lf.length:Nat):Int)) (B8 rfl rfl Zo Zo) Zo) ?_;refine jK func177 ?_;have hlf:lf=[]:=AaM Zo;have hE:A0 lf=([],lf):=by rw[hlf];exact framesR_nil
 rw[hE]at hFr hFr2;simp only[Aax]at hFr;exact⟨_,rfl,ao,co,rs,by rw[hFr2],a4,a0,hFr,ac,af,(Zf ab),K0⟩
end Go.Proofs.YtjkaicjmfgekjaaGreatDoor
namespace Go.Proofs.YtjkaicjmfgekjaaGreatDoor
open Go.Proofs.Tryz
attribute [local irreducible] RD RS AB RL RA RT CB Ai crcN CV CP F6 Co leL C9 Ao AM Eg En E7 Fv DY
def Xa {room:Int}{pl:List PF}{bs:List UInt8}{n:Int}{r:List Int}(h:bs=[]):Gz room pl bs n r=(0,Cs (Br pl (Ao n)) r):=by rw[Gz,if_pos h]
def UN {room:Int}{pl:List PF}{bs:List UInt8}{n:Int}{r:List Int}(h:bs≠ [])(h2:(BR room pl bs n).1=0):Gz room pl bs n r=(0,Cs (BR room pl bs n).2 r):=by rw[Gz,if_neg h,if_pos h2]
def Xb {room:Int}{pl:List PF}{bs:List UInt8}{n:Int}{r:List Int}(h:bs≠ [])(h2:(BR room pl bs n).1≠0):Gz room pl bs n r=BR room pl bs n:=by rw[Gz,if_neg h,if_neg h2]
def A1 {w:World}{F F':Nat->Prop}(h:∀q,F' q->q<w.heap.size->F q):AR w F F':=Mo h
attribute [local irreducible] X
def Yh (b d:Nat)(F:Nat->Prop)(room:Int)(pl:List PF)(a:Option Addr)(xs:List UInt8)(c:Nat)(n:Int)(w:World)(hb:AC w b [jp d] 161)(hD:AJ w d F room pl)(hbd:¬F b)(hL:A5 w)(hFG:∀q,F q->7<=q)(hs:Ax w a xs)(hdis:∀x,a=some x->¬F x.block)(hl:xs.length<=1073741824):
  Calls prog 124 #[jp b,.slice a xs.length c,.int .i64 n] w (AU (Fs d F room w (BR room pl xs n).1 (BR room pl xs n).2)):=by
 have hLs:=hL.size;have hnm:=B1 n;have hfs:freshN.size=7:=rfl;refine kD (n:=31) func124 ?_;refine kS (J4 hD freshN _ _ _ (by first|omega|decide) hs Za (by first|omega|decide)) ?_;rintro _ al ⟨a0,rfl,ac,a1,a7⟩;have ad:¬a0 b:=a1.not hbd hb.lt;have a8:∀q_,a0 q_->q_<w.heap.size->F q_:=a1.inS (λq_ h_ _=>h_) (Aac _);have ae:∀q_,a0 q_->7<=q_:=λq_ h_=>(a1 q_ h_).elim (hFG q_) (λh2_=>Aaa hLs (Aaa (Aac _) h2_));have K0:=(Ae.refl F w).trans a7 (λx hlt hx=>(λq_ h_ _=>h_) x hx hlt);clear a1;refine jG ?_;replace hb:=hb.keep a7 hbd;replace hL:=hL.keep a7 hFG;refine jF ?_ ?_
 ·intro hc15;refine jG ?_;refine kS (Oz ac freshN (by first|omega|decide)) ?_;rintro _ am ⟨a2,rfl,a3,a4,a9⟩;have ah:¬a2 b:=a4.not ad hb.lt;have aa:∀q_,a2 q_->q_<w.heap.size->F q_:=a4.inS a8 K0.size;have ai:∀q_,a2 q_->7<=q_:=λq_ h_=>(a4 q_ h_).elim (ae q_) (λh2_=>Aaa hLs (Aaa K0.size h2_));replace K0:=K0.trans a9 (λx hlt hx=>a8 x hx hlt);clear a4;refine jG ?_;replace hb:=hb.keep a9 ad;replace hL:=hL.keep a9 ae;refine jF ?_ ?_
  ·intro hc22;skip;refine Ai.drawS [] [0,1,2,1003,4,2005,2006,7] ?_;intro an a5;replace hb:=hb.ext a5;refine kF (jb hb Jn) ?_;replace hL:=hL.ext a5;refine jU rfl<|jC (CJ n _ hL) ?_;rintro _ ao ⟨rfl,a6⟩;replace hb:=hb.ext a6;refine jG ?_;replace a3:=(a3.ext a5).ext a6;refine jU rfl<|jC (WJ a3 freshN (Ao n) (by first|omega|decide) (by first|omega|decide)) ?_;rintro _ ap ⟨af,rfl,aj,ag,ab⟩;replace K0:=(K0.ext a5).ext a6;have ak:∀q_,af q_->q_<w.heap.size->F q_:=ag.inS aa K0.size;replace K0:=K0.trans ab (λx hlt hx=>aa x hx hlt);clear ag;replace hb:=hb.keep ab ah;refine kL func124 ?_;have hEq:BR room pl xs n=(E9 (Cq (Do room pl freshN xs) freshN) freshN (Ao n),HD (Cq (Do room pl freshN xs) freshN) freshN (Ao n)):=by rw[BR,if_pos hc15,if_pos hc22]
   rw[hEq];replace hL:=(hL.ext a6).keep ab ai;exact⟨_,rfl,af,rfl,aj,A1 ak,K0⟩
  intro hc22;skip;refine kL func124 ?_;have hEq:BR room pl xs n=(CX (Do room pl freshN xs) freshN,Cq (Do room pl freshN xs) freshN):=by rw[BR,if_pos hc15,if_neg hc22]
  rw[hEq];exact⟨_,rfl,a2,rfl,a3,A1 aa,K0⟩
 intro hc15;refine kK ?_ ?_
 ·intro hc22;exact absurd hc22 hc15
 intro hc22;skip;refine kL func124 ?_;have hEq:BR room pl xs n=(Df room pl freshN xs,Do room pl freshN xs):=by rw[BR,if_neg hc15]
 rw[hEq];exact⟨_,rfl,a0,rfl,ac,A1 a8,K0⟩
def hZ (b d:Nat)(F:Nat->Prop)(room:Int)(pl:List PF)(a:Option Addr)(xs:List UInt8)(c:Nat)(a2:Option Addr)(ls:List Int)(c2:Nat)(i:Nat)(n:Int)(w:World)(hb:AC w b [jp d] 161)(hD:AJ w d F room pl)(hbd:¬F b)(hL:A5 w)(hFG:∀q,F q->7<=q)(hs:Ax w a xs)(hdis:∀x,a=some x->¬F x.block)(hl:xs.length<=1073741824)(hs2:Ax w a2 ls)(hdis2:∀x,a2=some x->¬F x.block)(hl2:ls.length<=4294967295)(hok:Jh ls)(hall:∀m∈ls,CN pl (Ao m)=true)(hx:ls[i]? =some n):
  Calls prog 178 #[jp b,.slice a xs.length c,.slice a2 ls.length c2,.int .i64 ((i:Nat):Int)] w (AU (Fs d F room w (Gz room pl xs n (ls.drop (i+1))).1 (Gz room pl xs n (ls.drop (i+1))).2)):=by
 have hLs:=hL.size;have hil:i<ls.length:=(List.getElem?_eq_some_iff.1 hx).1;have hnm:=B1 n;refine kD (n:=54) func178 ?_;refine jF ?_ ?_
 ·intro hc13;obtain⟨b1,b2,aE,aF,av,a0⟩:=hs2.eo i;have hc_6_lt:=a0.lt;obtain rfl:n=aE:=Option.some.inj (hx.symm.trans aF);refine Ai.drawS [] [0,1,2,1003,4,5,6,1007,2008,2009,10] ?_;intro b3 a4;have K0:=(a4:As w _).to (S:=F);replace hb:=hb.ext a4;replace a0:=a0.ext a4;refine jM (jb hb (jl a0 Jn)) ?_;refine Ii ?_;refine ET ?_;refine jP ?_ (hx:=by exact λ_=>(AY underlying185 ty3 rfl rfl av Zl));refine jG ?_;replace hL:=hL.ext a4;refine jU rfl<|jC (CJ n _ hL) ?_;rintro _ b4 ⟨rfl,a5⟩;replace hb:=hb.ext a5;replace a0:=a0.ext a5;refine jG ?_;replace hD:=(hD.ext a4).ext a5;refine jU rfl<|jC (Ef (Hk hD (Ao n) (by first|omega|decide)) (DZ (Da (hok.low n (Aan hx)).1 (hok.low n (Aan hx)).2) (hall n (Aan hx))) rfl) ?_;rintro _ b5 ⟨am,rfl,aw,aa,ab⟩;have aG:¬am b:=aa.not hbd hb.lt;replace K0:=K0.ext a5;have aH:∀q_,am q_->q_<w.heap.size->F q_:=aa.inS (λq_ h_ _=>h_) K0.size;have aI:∀q_,am q_->7<=q_:=λq_ h_=>(aa q_ h_).elim (hFG q_) (λh2_=>Aaa hLs (Aaa K0.size h2_));replace K0:=K0.trans ab (λx hlt hx=>(λq_ h_ _=>h_) x hx hlt);clear aa;replace hb:=hb.keep ab hbd;replace a0:=a0.keep ab (λh=>hdis2 _ av ((λq_ h_ _=>h_) _ h hc_6_lt));refine jG ?_;refine kE (AA (c:=((ls.length-1:Nat):Int)) (B8 rfl rfl Zo Zo) Zo) ?_;replace hL:=(hL.ext a5).keep ab hFG;refine Ai.loop (ι:=Nat) (λk ρ' w'=>∃Fk:Nat->Prop,Holds ρ' [(0,jp b),(2,.slice a2 ls.length c2),(3,.int .i64 ((i:Nat):Int)),(9,.int .i64 0),(10,.int .i64 ((k:Nat):Int))]/\Ae F w w'/\(AC w' b [jp d] 161)/\(A5 w')/\(AJ w' d Fk room (Cs (Br pl (Ao n)) (ls.drop (k+1))))/\(¬Fk b)/\(∀q_,Fk q_->q_<w.heap.size->F q_)/\(∀q_,Fk q_->7<=q_)/\(i<=k)/\(k<ls.length)) (λk=>k) (ls.length-1) ?_ ?_
  ·rw[show Cs (Br pl (Ao n)) (ls.drop (ls.length-1+1))=(Br pl (Ao n))by rw[Aa0 Zo,Jg]];refine⟨_,⟨rfl,rfl,rfl,rfl,rfl,trivial⟩,K0,hb,hL,aw,aG,aH,aI,?_,?_⟩
   ·omega
   omega
  clear hb aw;clear K0;rintro k b6 b7 ⟨Fk,ax,K0,hb,hL,ac,ay,ad,az,hik,hkl⟩ ih1;obtain⟨ρ₀,rfl⟩:=ax.ex;clear ax;refine Ii ?_;refine FU ?_;refine jW ?_ (hx:=by exact λhg=>(DR (HF (B4 hg) rfl) Zd));refine kE (Bo rfl rfl rfl) ?_;refine jF ?_ ?_
  ·intro hc40;obtain⟨m,hm⟩:∃m,ls[k]? =some m:=⟨_,List.getElem?_eq_getElem hkl⟩
   have hhas:=La (pl:=(Br pl (Ao n))) (ns:=ls.drop (k+1)) (Nx (hall m (Aan hm)) (hok.ne hx hm Zo)) (λj hj=>by
    obtain⟨q,hq⟩:=Abm hj;rw[Abt]at hq;exact λe=>hok.ne hm hq Zo e.symm)
   refine jG ?_;have hnm:=B1 m;obtain⟨b8,b9,aJ,aK,an,a1⟩:=hs2.eo k;have hc_31_lt:=a1.lt;obtain rfl:m=aJ:=Option.some.inj (hm.symm.trans aK);refine Ai.drawS [] [0,1,2,1003,4,5,6,1007,2008,2009,10] ?_;intro ba a6;replace a1:=(a1.keep K0 (hdis2 _ an)).ext a6;replace hb:=hb.ext a6;refine jM (jb hb (jl a1 Jn)) ?_;refine Ii ?_;refine ET ?_;refine jP ?_ (hx:=by exact λ_=>(AY underlying185 ty3 rfl rfl an Zl));refine jG ?_;replace hL:=hL.ext a6;refine jU rfl<|jC (CJ m _ hL) ?_;rintro _ bb ⟨rfl,a7⟩;replace hb:=hb.ext a7;replace a1:=a1.ext a7;refine jG ?_;replace ac:=(ac.ext a6).ext a7;refine jU rfl<|jC (Ef (Hk ac (Ao m) (by first|omega|decide)) (DZ (Da (hok.low m (Aan hm)).1 (hok.low m (Aan hm)).2) hhas) rfl) ?_;rintro _ bc ⟨ao,rfl,aL,ae,af⟩;have aM:¬ao b:=ae.not ay hb.lt;replace K0:=(K0.ext a6).ext a7;have aN:∀q_,ao q_->q_<w.heap.size->F q_:=ae.inS ad K0.size;have aO:∀q_,ao q_->7<=q_:=λq_ h_=>(ae q_ h_).elim (az q_) (λh2_=>Aaa hLs (Aaa K0.size h2_));replace K0:=K0.trans af (λx hlt hx=>ad x hx hlt);clear ae;replace hb:=hb.keep af ay;replace a1:=a1.keep af (λh=>hdis2 _ an (ad _ h hc_31_lt));refine jG ?_;refine kE (AA (c:=((k-1:Nat):Int)) (B8 rfl rfl Zo Zo) Zo) ?_;have e:Cs (Br pl (Ao n)) (ls.drop (k-1+1))=Br (Cs (Br pl (Ao n)) (ls.drop (k+1))) (Ao m):=by rw[show k-1+1=k by omega,It hm,K8]
   refine ih1 (k-1) _ _ ?_ Zo;rw[e];replace hL:=(hL.ext a7).keep af az;refine⟨_,⟨rfl,rfl,rfl,rfl,rfl,trivial⟩,K0,hb,hL,aL,aM,aN,aO,?_,?_⟩
   ·omega
   omega
  intro hc40;skip;refine kL func178 ?_;have hki:k=i:=by simp at hc40;omega
  subst hki;have hEq:Gz room pl xs n (ls.drop (k+1))=_:=Xa (AaM Zo);rw[hEq];exact⟨_,rfl,Fk,rfl,ac,A1 ad,K0⟩
 intro hc13;refine Ii ?_;obtain⟨be,bg,aP,aQ,aR,aS⟩:=hs2.eo i;have hc_47_lt:=aS.lt;obtain rfl:n=aP:=Option.some.inj (hx.symm.trans aQ);refine kE (AY underlying185 ty3 rfl rfl aR Zl) ?_;refine kS (Yh _ _ _ _ _ _ xs _ n _ hb hD hbd hL hFG hs Za Zo) ?_;rintro _ bh ⟨ag,rfl,ap,ah,aq⟩;have aT:¬ag b:=ah.not hbd hb.lt;have aA:∀q_,ag q_->q_<w.heap.size->F q_:=ah.inS (λq_ h_ _=>h_) (Aac _);have aU:∀q_,ag q_->7<=q_:=λq_ h_=>(ah q_ h_).elim (hFG q_) (λh2_=>Aaa hLs (Aaa (Aac _) h2_));have K0:=(Ae.refl F w).trans aq (λx hlt hx=>(λq_ h_ _=>h_) x hx hlt);clear ah;refine FU ?_;replace hb:=hb.keep aq hbd;replace hL:=hL.keep aq hFG;by_cases hse:(BR room pl xs n).1=0
 ·rw[hse];refine jG ?_;refine kE (AA (c:=((ls.length-1:Nat):Int)) (B8 rfl rfl Zo Zo) Zo) ?_;refine Ai.loop (ι:=Nat) (λk ρ' w'=>∃Fk:Nat->Prop,Holds ρ' [(0,jp b),(2,.slice a2 ls.length c2),(3,.int .i64 ((i:Nat):Int)),(9,.int .i64 0),(10,.int .i64 ((k:Nat):Int))]/\Ae F w w'/\(AC w' b [jp d] 161)/\(A5 w')/\(AJ w' d Fk room (Cs (BR room pl xs n).2 (ls.drop (k+1))))/\(¬Fk b)/\(∀q_,Fk q_->q_<w.heap.size->F q_)/\(∀q_,Fk q_->7<=q_)/\(i<=k)/\(k<ls.length)) (λk=>k) (ls.length-1) ?_ ?_
  ·rw[show Cs (BR room pl xs n).2 (ls.drop (ls.length-1+1))=(BR room pl xs n).2 by rw[Aa0 Zo,Jg]];refine⟨_,⟨rfl,rfl,rfl,rfl,rfl,trivial⟩,K0,hb,hL,ap,aT,aA,aU,?_,?_⟩
   ·omega
   omega
  clear hb ap;clear K0;rintro k bi bj ⟨Fk,aB,K0,hb,hL,ai,aC,aj,aD,hik,hkl⟩ ih2;obtain⟨ρ₀,rfl⟩:=aB.ex;clear aB;refine Ii ?_;refine FU ?_;refine jW ?_ (hx:=by exact λhg=>(DR (HF (B4 hg) rfl) Zd));refine kE (Bo rfl rfl rfl) ?_;refine jF ?_ ?_
  ·intro hc40;obtain⟨m,hm⟩:∃m,ls[k]? =some m:=⟨_,List.getElem?_eq_getElem hkl⟩
   have hhas:=La (pl:=(BR room pl xs n).2) (ns:=ls.drop (k+1)) (OI (hall m (Aan hm)) (Hm m) (hok.ne hx hm Zo)) (λj hj=>by
    obtain⟨q,hq⟩:=Abm hj;rw[Abt]at hq;exact λe=>hok.ne hm hq Zo e.symm)
   refine jG ?_;have hnm:=B1 m;obtain⟨bk,bl,aV,aW,ar,a3⟩:=hs2.eo k;have hc_70_lt:=a3.lt;obtain rfl:m=aV:=Option.some.inj (hm.symm.trans aW);refine Ai.drawS [] [0,1,2,1003,4,5,6,1007,2008,2009,10] ?_;intro bm a8;replace a3:=(a3.keep K0 (hdis2 _ ar)).ext a8;replace hb:=hb.ext a8;refine jM (jb hb (jl a3 Jn)) ?_;refine Ii ?_;refine ET ?_;refine jP ?_ (hx:=by exact λ_=>(AY underlying185 ty3 rfl rfl ar Zl));refine jG ?_;replace hL:=hL.ext a8;refine jU rfl<|jC (CJ m _ hL) ?_;rintro _ bn ⟨rfl,a9⟩;replace hb:=hb.ext a9;replace a3:=a3.ext a9;refine jG ?_;replace ai:=(ai.ext a8).ext a9;refine jU rfl<|jC (Ef (Hk ai (Ao m) (by first|omega|decide)) (DZ (Da (hok.low m (Aan hm)).1 (hok.low m (Aan hm)).2) hhas) rfl) ?_;rintro _ bo ⟨au,rfl,aX,ak,al⟩;have aY:¬au b:=ak.not aC hb.lt;replace K0:=(K0.ext a8).ext a9;have aZ:∀q_,au q_->q_<w.heap.size->F q_:=ak.inS aj K0.size;have b0:∀q_,au q_->7<=q_:=λq_ h_=>(ak q_ h_).elim (aD q_) (λh2_=>Aaa hLs (Aaa K0.size h2_));replace K0:=K0.trans al (λx hlt hx=>aj x hx hlt);clear ak;replace hb:=hb.keep al aC;replace a3:=a3.keep al (λh=>hdis2 _ ar (aj _ h hc_70_lt));refine jG ?_;refine kE (AA (c:=((k-1:Nat):Int)) (B8 rfl rfl Zo Zo) Zo) ?_;have e:Cs (BR room pl xs n).2 (ls.drop (k-1+1))=Br (Cs (BR room pl xs n).2 (ls.drop (k+1))) (Ao m):=by rw[show k-1+1=k by omega,It hm,K8]
   refine ih2 (k-1) _ _ ?_ Zo;rw[e];replace hL:=(hL.ext a9).keep al aD;refine⟨_,⟨rfl,rfl,rfl,rfl,rfl,trivial⟩,K0,hb,hL,aX,aY,aZ,b0,?_,?_⟩
   ·omega
   omega
  intro hc40;skip;refine kL func178 ?_;have hki:k=i:=by simp at hc40;omega
  subst hki;have hEq:Gz room pl xs n (ls.drop (k+1))=_:=UN (Dt Zo) hse;rw[hEq];exact⟨_,rfl,Fk,rfl,ai,A1 aj,K0⟩
 refine jG ?_;refine kE (AA (c:=((ls.length-1:Nat):Int)) (B8 rfl rfl Zo Zo) Zo) ?_;refine Ai.unloop ?_;refine jG ?_;refine kE (Bo rfl rfl rfl) ?_;refine jF ?_ ?_
 ·intro hc40;exact absurd hc40.2 hse
 intro hc40;skip;refine kL func178 ?_;have hEq:=Xb (room:=room) (pl:=pl) (n:=n) (r:=ls.drop (i+1)) (bs:=xs) (Dt Zo) hse;rw[hEq];exact⟨_,rfl,ag,rfl,ap,A1 aA,K0⟩
end Go.Proofs.YtjkaicjmfgekjaaGreatDoor
namespace Go.Proofs.YtjkaicjmfgekjaaGreatDoor
open Go.Proofs.Tryz
attribute [local irreducible] RD RS AB RL RA RT CB Ai crcN CV CP F6 Co leL C9 Ao AM Eg En E7 Fv DY
def F8 (acc:List (List UInt8))(p:List UInt8):List (List UInt8):=if p=[]then[]else acc++[p]
def CO (acc:List RB)(r:RB):List RB:=if r.b=[]then[]else acc++[r]
def stepH_map : ∀ (ss : List RB) (rs : List RB), (ss.foldl CO rs).map RB.b = (ss.map RB.b).foldl F8 (rs.map RB.b)
  | [], _ => rfl
  | r :: ss, rs => by
    rw [AaK, Aaf, AaK, stepH_map ss];congr 1;rw [CO, F8];split
    · rfl
    rw [Aam]; rfl
def stepH_mem : ∀ (ss : List RB) (rs : List RB), ∀ r ∈ ss.foldl CO rs, r ∈ rs ++ ss
  | [], rs, r, h => by simpa using h
  | x :: ss, rs, r, h => by
    rw [AaK] at h;have := stepH_mem ss _ r h;rcases List.mem_append.1 this with h2 | h2
    · rw [CO] at h2;split at h2
      · cases h2
      rcases List.mem_append.1 h2 with h3 | h3
      · exact AaQ _ h3
      simp only [Aah] at h3; subst h3; simp
    simp [h2]
def Lb {ss rs:List RB}{j:Nat}{r:RB}(h:ss[j]? =some r):(ss.take (j+1)).foldl CO rs=CO ((ss.take j).foldl CO rs) r:=by
 obtain⟨hj,rfl⟩:=List.getElem?_eq_some_iff.1 h;rw[AaJ hj,Abg];rfl
def stepH_len : ∀ (ss : List RB) (rs : List RB), (ss.foldl CO rs).length <= rs.length + ss.length
  | [], rs => Aac _
  | r :: ss, rs => by
    rw [AaK];have := stepH_len ss (CO rs r);have h2 : (CO rs r).length <= rs.length + 1 := by rw [CO]; split <;> simp
    simp only [Aaj]; omega
def Eh (room : Int) (pl : List PF) : List Int -> List (List UInt8) -> Int × List (List UInt8) × List PF
  | [], acc => (0, acc, pl)
  | n :: r, acc =>
    if (A0 (A9 pl (Ao n))).2 = [] then Eh room pl r ((A0 (A9 pl (Ao n))).1.foldl F8 acc)
    else if (Gz room pl ((A9 pl (Ao n)).take ((A9 pl (Ao n)).length - (A0 (A9 pl (Ao n))).2.length)) n r).1 = 0
      then (0, (A0 (A9 pl (Ao n))).1.foldl F8 acc, (Gz room pl ((A9 pl (Ao n)).take ((A9 pl (Ao n)).length - (A0 (A9 pl (Ao n))).2.length)) n r).2)
      else ((Gz room pl ((A9 pl (Ao n)).take ((A9 pl (Ao n)).length - (A0 (A9 pl (Ao n))).2.length)) n r).1, [], (Gz room pl ((A9 pl (Ao n)).take ((A9 pl (Ao n)).length - (A0 (A9 pl (Ao n))).2.length)) n r).2)
section
variable {room :Int}{pl:List PF}{l:List Int}{i:Nat}{n:Int}{acc:List (List UInt8)}
def UO (h:l[i]? =some n)(h2:(A0 (A9 pl (Ao n))).2=[]):Eh room pl (l.drop i) acc=Eh room pl (l.drop (i+1)) ((A0 (A9 pl (Ao n))).1.foldl F8 acc):=by rw[It h,Eh,if_pos h2]
def SV (h:l[i]? =some n)(h2:(A0 (A9 pl (Ao n))).2≠ [])(h3:(Gz room pl ((A9 pl (Ao n)).take ((A9 pl (Ao n)).length-(A0 (A9 pl (Ao n))).2.length)) n (l.drop (i+1))).1=0):
  Eh room pl (l.drop i) acc=(0,(A0 (A9 pl (Ao n))).1.foldl F8 acc,(Gz room pl ((A9 pl (Ao n)).take ((A9 pl (Ao n)).length-(A0 (A9 pl (Ao n))).2.length)) n (l.drop (i+1))).2):=by rw[It h,Eh,if_neg h2,if_pos h3]
def SW (h:l[i]? =some n)(h2:(A0 (A9 pl (Ao n))).2≠ [])(h3:(Gz room pl ((A9 pl (Ao n)).take ((A9 pl (Ao n)).length-(A0 (A9 pl (Ao n))).2.length)) n (l.drop (i+1))).1≠0):
  Eh room pl (l.drop i) acc=((Gz room pl ((A9 pl (Ao n)).take ((A9 pl (Ao n)).length-(A0 (A9 pl (Ao n))).2.length)) n (l.drop (i+1))).1,[],(Gz room pl ((A9 pl (Ao n)).take ((A9 pl (Ao n)).length-(A0 (A9 pl (Ao n))).2.length)) n (l.drop (i+1))).2):=by rw[It h,Eh,if_neg h2,if_neg h3]
def UP (h:Ce room pl)(s:ByteArray):(A9 pl s).length<=16777216:=by
 have e:(A9 pl s).length=Iq pl s:=by rw[A9,Iq];cases CD pl s<;>rfl
 rw[e];exact UL h s
end
def YV {w:World}{d:Nat}{F:Nat->Prop}{room:Int}{pl:List PF}(h:AJ w d F room pl)(name:ByteArray)(hs:name.size<=4294967295)(he:CX pl name=0):Calls prog 176 #[jp d,.string name] w
  (AU λv w'=>∃a' c',v= .tuple #[.slice a' (A9 pl name).length c',.int .i64 0]/\Af w' 5 a' c' (A9 pl name)/\(∀b,own a' b->w.heap.size<=b)/\As w w'):=he▸gQ h name hs
attribute [local irreducible] X
def YW (b d:Nat)(F:Nat->Prop)(room:Int)(pl:List PF)(w:World)(hb:AC w b [jp d] 161)(hD:AJ w d F room pl)(hbd:¬F b)(hL:A5 w)(hFG:∀q,F q->7<=q):
  Calls prog 113 #[jp b] w (AU (λv w'=>∃F',AJ w' d F' room (Eh room pl (AM pl) []).2.2/\AR w F F'/\Ae F w w'/\(((Eh room pl (AM pl) []).1=0/\∃a' c',∃rs:List RB,v= .tuple #[.slice a' (rs.map RB.h).length c',.int .i64 0]/\Af w' 98 a' c' (rs.map RB.h)/\Bk w' rs/\rs.map RB.b=(Eh room pl (AM pl) []).2.1/\(∀q,own a' q->w.heap.size<=q)/\(∀q,Az rs q->w.heap.size<=q)/\(∀q,own a' q->¬Az rs q)/\(∀q,own a' q->¬F' q)/\(∀q,Az rs q->¬F' q))\/((Eh room pl (AM pl) []).1≠0/\v= .tuple #[.slice none 0 0,.int .i64 (Eh room pl (AM pl) []).1])))):=by
 have hLs:=hL.size;have hok:=hD.ok;have hlen:=hok.len;have hsl:=EM pl;refine Ac (n:=71) func113 rfl rfl rfl ?_;have hR:Bk w ([]:List RB):=Bk.nil w;refine jG ?_;refine kS (UJ _ _ _ _ _ _ hb hD hbd hL) ?_;rintro _ aS ⟨a2,ae,rfl,a0,ar,ah⟩;have aB:=Ag ar hD.oL;have aT:=Ag ar hR.oL;clear ar;have K0:=(ah:As w _).to (S:=F);refine jG ?_;replace hb:=hb.ext ah;replace hD:=hD.ext ah;replace hL:=hL.ext ah;replace hR:=hR.ext ah;refine Ai.loop (ι:=Nat) (λi ρ' w'=>∃rs:List RB,∃ao:Option Addr,∃co:Nat,Holds ρ' [(0,jp b),(4,.slice ao ((rs.map RB.h).length) co),(5,.slice a2 ((AM pl).length) ae),(16,.slice a2 ((AM pl).length) ae),(17,.int .i64 (((AM pl).length:Nat):Int)),(18,.int .i64 ((i:Nat):Int))]/\Ae F w w'/\(AC w' b [jp d] 161)/\(A5 w')/\(AJ w' d F room pl)/\(Af w' 3 a2 ae (AM pl))/\(Bk w' rs)/\(Af w' 98 ao co (rs.map RB.h))/\(¬Az rs b)/\(∀q_,Az rs q_->¬F q_)/\(∀q_,Az rs q_->¬own a2 q_)/\(∀q_,Az rs q_->¬own ao q_)/\(∀q_,Az rs q_->q_<w.heap.size->F q_)/\(¬own ao b)/\(∀q_,own ao q_->¬F q_)/\(∀q_,own ao q_->¬own a2 q_)/\(∀q_,own ao q_->q_<w.heap.size->F q_)/\(∀q_,Az rs q_->w.heap.size<=q_)/\(∀q_,own ao q_->w.heap.size<=q_)/\(i<=(AM pl).length)/\(rs.length<=i*16777216)/\(Eh room pl (AM pl) []=Eh room pl ((AM pl).drop i) (rs.map RB.b))) (λi=>(AM pl).length-i) 0 ?_ ?_
 ·have aU:=Af.nil (α:=SH) aS 98;refine⟨[],_,_,⟨rfl,rfl,rfl,rfl,rfl,rfl,trivial⟩,K0,hb,hL,hD,a0,hR,aU,(λ⟨_,h_,_⟩=>absurd h_ Zs),(λq_ ⟨_,h_,_⟩ _=>absurd h_ Zs),(Zf aT),(λq_ h1 h2=>(λq_ h1 _=>Ad q_ h1) q_ h2 h1),(λq_ ⟨_,h_,_⟩ _=>absurd h_ Zs),(Ad b),(λq_ h1 _=>Ad q_ h1),(λq_ h1 _=>Ad q_ h1),(λq_ h1 _=>absurd h1 (Ad q_)),(λq_ ⟨_,h_,_⟩=>absurd h_ Zs),(λq_ h1=>absurd h1 (Ad q_)),?_,?_,?_⟩
  ·omega
  ·exact Aac _
  rfl
 clear hb hD hR a0;clear K0;rintro i bF bG ⟨rs,ao,co,aC,K0,hb,hL,hD,a0,al,a3,aV,aD,aW,aE,aX,aY,aF,aZ,b0,aG,aH,hi,hrl,hRP⟩ ih1;obtain⟨ρ₀,rfl⟩:=aC.ex;clear aC;refine kK ?_ ?_
 ·intro hc19;obtain⟨bH,bI,n,hn,bJ,bK⟩:=a0.sl.eo i;refine jG ?_;have hnm:=B1 n;have hbl:=UP hok (Ao n);refine Ai.drawS [] [0,1,2,1003,4,2005,2006,7,8,9,10,11] ?_;intro bL ab;replace hb:=hb.ext ab;refine kF (jb hb Jn) ?_;replace hL:=hL.ext ab;refine jU rfl<|jC (CJ n _ hL) ?_;rintro _ bM ⟨rfl,ac⟩;replace hb:=hb.ext ac;refine jG ?_;replace hD:=(hD.ext ab).ext ac;refine jU rfl<|jC (YV hD (Ao n) (by first|omega|decide) (Is (Aan hn))) ?_;rintro _ bN ⟨am,aI,rfl,a1,au,ad⟩;have b1:=Ag au hD.oL;replace a3:=(a3.ext ab).ext ac;have b2:=Ag au a3.oL;clear au;replace hb:=hb.ext ad;refine kG ?_;refine kS (W9 _ _ _ _ (Af.slo a1) Zo) ?_;rintro _ b3 ⟨an,aJ,ss,rfl,a4,b4,b5,b6,af,bO,a8⟩;replace a3:=a3.ext ad;have b7:=Ag b6 a3.oL;have b8:=Ay af hb.lt;replace hD:=hD.ext ad;have b9:=Ag af hD.oL;replace a0:=((a0.ext ab).ext ac).ext ad;have ba:=Ag af a0.oL;have bb:=Ag af a3.oL;replace K0:=((K0.ext ab).ext ac).ext ad;have bc:∀q_,Az ss q_->q_<w.heap.size->F q_:=GY K0.size af;have be:=Bg K0.size af;have hmsX:=b5;replace al:=(((al.ext ab).ext ac).ext ad).ext a8;have hJ:Bk b3 (rs++ss):=Bk.app al b4;have bg:¬Az (rs++ss) b:=λx_=>(recs_case _ x_).elim aV (λy_=>b8 y_);have bh:∀q_,Az (rs++ss) q_->¬F q_:=λq_ x_ z_=>(recs_case _ x_).elim (λy_=>aD q_ y_ z_) (λy_=>(λy_=>b9 q_ y_ z_) y_);have bi:∀q_,Az (rs++ss) q_->¬own a2 q_:=λq_ x_ z_=>(recs_case _ x_).elim (λy_=>aW q_ y_ z_) (λy_=>(λy_=>ba q_ y_ z_) y_);have bj:∀q_,Az (rs++ss) q_->¬own ao q_:=λq_ x_ z_=>(recs_case _ x_).elim (λy_=>aE q_ y_ z_) (λy_=>(λy_=>bb q_ y_ z_) y_);have bk:∀q_,Az (rs++ss) q_->q_<w.heap.size->F q_:=λq_ x_ hl_=>(recs_case _ x_).elim (λy_=>aX q_ y_ hl_) (λy_=>(λy_=>bc q_ y_ hl_) y_);have bl:∀q_,Az (rs++ss) q_->w.heap.size<=q_:=λq_ x_=>(recs_case _ x_).elim (λy_=>aG q_ y_) (λy_=>(λy_=>be q_ y_) y_);have hrsl:(rs.map RB.h).length=rs.length:=Aad ..;have hssl:(ss.map RB.h).length=ss.length:=Aad ..;have hfl:=framesR_len (A9 pl (Ao n));have hssm:ss.length=(A0 (A9 pl (Ao n))).1.length:=by rw[<-hmsX,Aad]
  refine jG ?_;replace hL:=((hL.ext ac).ext ad).ext a8;replace hb:=hb.ext a8;replace hD:=hD.ext a8;replace a0:=a0.ext a8;replace a3:=a3.ext a8;replace a1:=a1.ext a8;replace K0:=K0.ext a8;refine Ai.loop (ι:=Nat) (λj ρ' w'=>∃aj:Option Addr,∃cj:Nat,Holds ρ' [(0,jp b),(4,.slice aj (((List.foldl CO rs (ss.take j)).map RB.h).length) cj),(5,.slice a2 ((AM pl).length) ae),(6,.int .i64 ((i:Nat):Int)),(8,.slice am ((A9 pl (Ao n)).length) aI),(11,.int .i64 (((A9 pl (Ao n)).length-(A0 (A9 pl (Ao n))).2.length:Nat):Int)),(16,.slice a2 ((AM pl).length) ae),(17,.int .i64 (((AM pl).length:Nat):Int)),(18,.int .i64 ((i:Nat):Int)),(19,.bool (decide (((i:Nat):Int)<(((AM pl).length:Nat):Int)))),(41,.slice an ((ss.map RB.h).length) aJ),(42,.int .i64 (((ss.map RB.h).length:Nat):Int)),(43,.int .i64 ((j:Nat):Int))]/\Ae F w w'/\(AC w' b [jp d] 161)/\(A5 w')/\(AJ w' d F room pl)/\(Af w' 3 a2 ae (AM pl))/\(Af w' 5 am aI (A9 pl (Ao n)))/\(Af w' 98 an aJ (ss.map RB.h))/\(Bk w' (rs++ss))/\(Af w' 98 aj cj ((List.foldl CO rs (ss.take j)).map RB.h))/\(¬own aj b)/\(∀q_,own aj q_->¬F q_)/\(∀q_,own aj q_->¬own a2 q_)/\(∀q_,own aj q_->¬own am q_)/\(∀q_,own aj q_->¬own an q_)/\(∀q_,own aj q_->¬Az (rs++ss) q_)/\(∀q_,own aj q_->q_<w.heap.size->F q_)/\(∀q_,own aj q_->w.heap.size<=q_)/\(j<=ss.length)) (λj=>ss.length-j) 0 ?_ ?_
  ·refine⟨_,_,⟨rfl,rfl,rfl,rfl,rfl,rfl,rfl,rfl,rfl,rfl,rfl,rfl,rfl,trivial⟩,K0,hb,hL,hD,a0,a1,a4,hJ,a3,aY,aF,aZ,(Zf b2),(Zf b7),(Zf bj),b0,aH,?_⟩
   ·omega
  clear hb hD a0 a3 a1 a4 hJ;clear K0;rintro j bP av ⟨aj,cj,aK,K0,hb,hL,hD,a0,a1,a4,hJ,a5,aw,ai,ax,aL,aM,ay,az,ap,hj⟩ ih2;obtain⟨ρ₀,rfl⟩:=aK.ex;clear aK;refine kK ?_ ?_
  ·intro hc44;obtain⟨bQ,bR,hh_,hh,bS,bT⟩:=a4.sl.eo j;obtain⟨r,hr,hre,hro⟩:=WZ (rs:=ss) (w:=av) (Bk.sub hJ (λr hr=>AaR _ hr)) hh;subst hre;have hrl_:r.h.len=r.b.length:=rfl;refine kK ?_ ?_
   ·intro hc49;refine jG ?_;refine kC j ?_;have e:=(Lb (rs:=rs) hr).trans (if_pos (show r.b=[]from AaM Zo));refine ih2 (j+1) _ _ ?_ Zo;rw[e];have bm:=Af.nil (α:=SH) av 98;refine⟨_,_,⟨rfl,rfl,rfl,rfl,rfl,rfl,rfl,rfl,rfl,rfl,rfl,rfl,rfl,trivial⟩,K0,hb,hL,hD,a0,a1,a4,hJ,bm,(Ad b),(λq_ h1 _=>Ad q_ h1),(λq_ h1 _=>Ad q_ h1),(λq_ h1 _=>Ad q_ h1),(λq_ h1 _=>Ad q_ h1),(λq_ h1 _=>Ad q_ h1),(λq_ h1 _=>absurd h1 (Ad q_)),(λq_ h1=>absurd h1 (Ad q_)),?_⟩;omega
   intro hc49;have hfln:(List.foldl CO rs (ss.take j)).length<=rs.length+j:=by have:=stepH_len (ss.take j) rs;rw[List.length_take]at this;omega
   refine jG ?_;refine jR<|AB.buildSlice ([⟨r.a,r.b.length,r.c⟩]:List SH) underlying130 ty98 rfl rfl Ze ?_;intro bU bV bn bo a6;clear bn;replace a5:=a5.ext a6;refine jR<|AB.append (xs:=(List.foldl CO rs (ss.take j)).map RB.h) (ys:=([⟨r.a,r.b.length,r.c⟩]:List SH)) underlying130 ty98 rfl rfl rfl a5 bo.sl (by rw[Aad];simp only[Aaj,Aas];omega) Zd ?_;intro a9 bW bX aN aa a7 bp;replace hb:=hb.ext a6;have bq:¬own a9 b:=a7.not aw hb.lt;replace hD:=hD.ext a6;have bs:∀q_,own a9 q_->¬F q_:=a7.apart ai hD.oL;replace a0:=a0.ext a6;have bt:∀q_,own a9 q_->¬own a2 q_:=a7.apart ax a0.oL;replace a1:=a1.ext a6;have bu:∀q_,own a9 q_->¬own am q_:=a7.apart aL a1.oL;replace a4:=a4.ext a6;have bv:∀q_,own a9 q_->¬own an q_:=a7.apart aM a4.oL;replace hJ:=hJ.ext a6;have bw:∀q_,own a9 q_->¬Az (rs++ss) q_:=a7.apart ay hJ.oL;replace K0:=K0.ext a6;have bx:∀q_,own a9 q_->q_<w.heap.size->F q_:=a7.inS az K0.size;have bz:∀q_,own a9 q_->w.heap.size<=q_:=a7.ge ap K0.size;replace K0:=K0.trans aa (λx hlt hx=>az x hx hlt);clear a7;clear bp;have eRR:((List.foldl CO rs (ss.take j)).map RB.h)++([⟨r.a,r.b.length,r.c⟩]:List SH)=(List.foldl CO rs (ss.take (j+1))).map RB.h:=by rw[Lb hr,CO,if_neg (Dt Zo),Aam];rfl
   rw[eRR]at aN⊢;refine jG ?_;refine kC j ?_;refine ih2 (j+1) _ _ ?_ Zo;replace hL:=(hL.ext a6).keep aa (λq_ hq_=>Aaa hLs (ap q_ hq_));replace hb:=hb.keep aa aw;replace hD:=hD.kO aa (Zf ai);replace a0:=a0.kO aa (Zf ax);replace a1:=a1.kO aa (Zf aL);replace a4:=a4.kO aa (Zf aM);replace hJ:=hJ.kO aa (Zf ay);refine⟨_,_,⟨rfl,rfl,rfl,rfl,rfl,rfl,rfl,rfl,rfl,rfl,rfl,rfl,rfl,trivial⟩,K0,hb,hL,hD,a0,a1,a4,hJ,aN,bq,bs,bt,bu,bv,bw,bx,bz,?_⟩;omega
  intro hc44;refine jG ?_;have hje:j=ss.length:=by omega
  subst hje;rw[Aap]at a5;have hR2:Bk av (List.foldl CO rs ss):=Bk.sub hJ (stepH_mem ss rs);have hRB:(List.foldl CO rs ss).map RB.b=(A0 (A9 pl (Ao n))).1.foldl F8 (rs.map RB.b):=by rw[stepH_map,hmsX]
  have hfl2:=stepH_len ss rs;rw[show((List.foldl CO rs (ss.take ss.length)).map RB.h).length=((List.foldl CO rs ss).map RB.h).length by rw[Aap]];have bA:¬Az (List.foldl CO rs ss) b:=λx_=>bg (F7 (stepH_mem ss rs) _ x_);have aA:∀q_,Az (List.foldl CO rs ss) q_->¬F q_:=λq_ x_ z_=>(λy_=>bh q_ y_ z_) (F7 (stepH_mem ss rs) _ x_);have bB:∀q_,Az (List.foldl CO rs ss) q_->¬own a2 q_:=λq_ x_ z_=>(λy_=>bi q_ y_ z_) (F7 (stepH_mem ss rs) _ x_);have aO:∀q_,Az (List.foldl CO rs ss) q_->¬own aj q_:=λq_ x_ z_=>(λy_=>(Zf ay) q_ y_ z_) (F7 (stepH_mem ss rs) _ x_);have bC:∀q_,Az (List.foldl CO rs ss) q_->q_<w.heap.size->F q_:=λq_ x_ hl_=>(λy_=>bk q_ y_ hl_) (F7 (stepH_mem ss rs) _ x_);have aP:∀q_,Az (List.foldl CO rs ss) q_->w.heap.size<=q_:=λq_ x_=>(λy_=>bl q_ y_) (F7 (stepH_mem ss rs) _ x_);refine kK ?_ ?_
  ·intro hc58;have hcapb:=a1.le_cap;refine jG ?_;refine jV (HH (m':=((A9 pl (Ao n)).take ((A9 pl (Ao n)).length-(A0 (A9 pl (Ao n))).2.length)).length) (B7 underlying98 ty5 rfl rfl Zo) Zt) ?_;refine jG ?_;have hall:∀m∈AM pl,CN pl (Ao m)=true:=λm hm=>(CF.1 hm).2.2;refine jR<|jC (hZ _ _ _ _ _ _ ((A9 pl (Ao n)).take ((A9 pl (Ao n)).length-(A0 (A9 pl (Ao n))).2.length)) _ _ (AM pl) _ i n _ hb hD hbd hL hFG (a1.sl.take ((A9 pl (Ao n)).length-(A0 (A9 pl (Ao n))).2.length)) (λx_ hx_=>b1 _ ⟨x_,hx_,rfl⟩) Zt a0.sl (λx_ hx_=>aB _ ⟨x_,hx_,rfl⟩) Zo (Ry hok) hall hn) ?_;rintro _ bY ⟨ak,rfl,aQ,aq,ag⟩;have bD:∀q_,ak q_->¬own aj q_:=aq.apart (Zf ai) a5.oL;have bE:∀q_,ak q_->¬Az (List.foldl CO rs ss) q_:=aq.apart (Zf aA) hR2.oL;have aR:∀q_,ak q_->q_<w.heap.size->F q_:=aq.inS (λq_ h_ _=>h_) K0.size;replace K0:=K0.trans ag (λx hlt hx=>(λq_ h_ _=>h_) x hx hlt);clear aq;have hfne:(A0 (A9 pl (Ao n))).2≠ []:=Dt Zo;refine jG ?_;replace hb:=hb.keep ag hbd;replace hL:=hL.keep ag hFG;replace a0:=a0.kO ag aB;replace a5:=a5.kO ag ai;replace hR2:=hR2.kO ag aA;refine jF ?_ ?_
   ·intro hc67;refine kM func113 ?_;have hEq:=hRP.trans (SW hn hfne hc67);rw[hEq];exact⟨_,rfl,ak,aQ,A1 aR,K0,.inr ⟨hc67,rfl⟩⟩
   intro hc67;refine kM func113 ?_;have hEq:=hRP.trans (SV hn hfne hc67);rw[hEq];exact⟨_,rfl,ak,aQ,A1 aR,K0,.inl ⟨rfl,aj,cj,_,rfl,a5,hR2,hRB,ap,aP,(Zf aO),(Zf bD),(Zf bE)⟩⟩
  intro hc58;refine jG ?_;refine kC i ?_;have hfe:(A0 (A9 pl (Ao n))).2=[]:=AaM Zo;have hgo:=hRP.trans (UO hn hfe);rw[<-hRB]at hgo;refine ih1 (i+1) _ _ ?_ Zo;refine⟨List.foldl CO rs ss,_,_,⟨rfl,rfl,rfl,rfl,rfl,rfl,trivial⟩,K0,hb,hL,hD,a0,hR2,a5,bA,aA,bB,aO,bC,aw,ai,ax,az,aP,ap,?_,?_,?_⟩
  ·omega
  ·omega
  exact hgo
 intro hc19;refine kM func113 ?_;have hie:i=(AM pl).length:=by omega
 subst hie;rw[List.drop_length]at hRP;rw[hRP];exact⟨_,rfl,F,hD,A1 (λq_ h_ _=>h_),K0,.inl ⟨rfl,ao,co,_,rfl,a3,al,rfl,aH,aG,(Zf aE),aF,aD⟩⟩
end Go.Proofs.YtjkaicjmfgekjaaGreatDoor
namespace Go.Proofs.YtjkaicjmfgekjaaGreatDoor
open Go.Proofs.Tryz
attribute [local irreducible] RD RS AB RL RA RT CB Ai crcN CV CP F6 Co leL C9 Ao AM Eg En E7 Fv DY
def BW (b:List UInt8):Int:=if b=[]then 1 else if 65536<b.length then 4 else 0
def Rz {b:List UInt8}(h:BW b=0):b≠ []/\b.length<=65536:=by
 rw[BW]at h;split at h
 ·cases h
 split at h
 ·cases h
 exact⟨by assumption,by omega⟩
def CQ (pl:List PF)(ns:List Int):List PF:=pl.map λf=>if ns.any (λn=>decide (f.name=Ao n))then{f with synced:=f.bytes.length}else f
def HZ (pl:List PF):CQ pl []=pl:=by rw[CQ];simp
def OJ (pl:List PF)(ns:List Int)(n:Int):CQ pl (ns++[n])=Cq (CQ pl ns) (Ao n):=by
 rw[CQ,Cq,DW,CQ,Aat];refine AaE λf _=> ?_;simp only[Function.comp,List.any_append,List.any_cons,List.any_nil,Bool.or_false,Abp,decide_eq_true_eq];generalize ns.any (λn=>decide (f.name=Ao n))=b;cases b<;>by_cases h2:f.name=Ao n<;>simp[h2]
def My {pl:List PF}{ns:List Int}{i:Nat}{n:Int}(h:ns[i]? =some n):CQ pl (ns.take (i+1))=Cq (CQ pl (ns.take i)) (Ao n):=by
 obtain⟨hi,rfl⟩:=List.getElem?_eq_some_iff.1 h;rw[AaJ hi,OJ]
def Mz {pl:List PF}{ns:List Int}{s:ByteArray}(h:CN pl s=true):CN (CQ pl ns) s=true:=by
 obtain⟨f,hf,rfl⟩:=Bu.1 h;refine Bu.2 ⟨_,List.mem_map.2 ⟨f,hf,rfl⟩,?_⟩;split<;>rfl
def Qh {pl:List PF}{s:ByteArray}(h:CN pl s=false):Br pl s=pl:=by
 rw[Br,AaU];intro f hf;simp only[decide_eq_true_eq];exact λe=>by rw[Bu.2 ⟨f,hf,e⟩]at h;cases h
def fresh_may :CW freshN=true:=by decide+kernel
def LZ {pl:List PF}(h:CN pl freshN=false):CX pl freshN=20:=by rw[CX,if_pos fresh_may,h];rfl
noncomputable def At (room:Int)(pl:List PF):Int×List (List UInt8)×List PF:=Eh room pl (AM pl) []
noncomputable def A7 (room:Int)(pl:List PF):Int×List (List UInt8)×List PF:=
 if (At room (Br pl freshN)).1=0 then(0,(At room (Br pl freshN)).2.1,CQ (At room (Br pl freshN)).2.2 (AM (At room (Br pl freshN)).2.2))
 else((At room (Br pl freshN)).1,[],(At room (Br pl freshN)).2.2)
noncomputable def Aw (room:Int)(pl:List PF)(xs:List UInt8):Int×List PF:=
 if BW xs≠0 then(BW xs,pl)else
 if 0<AT pl/\4096<=Iq pl (Ao (AT pl))then
  (if 999999999<max (AT pl+1) 1 then(70,Cq pl (Ao (AT pl)))else(Df room (Cq pl (Ao (AT pl))) (Ao (max (AT pl+1) 1)) (Ar xs),Do room (Cq pl (Ao (AT pl))) (Ao (max (AT pl+1) 1)) (Ar xs)))
 else(if 999999999<max (AT pl) 1 then(70,pl)else(Df room pl (Ao (max (AT pl) 1)) (Ar xs),Do room pl (Ao (max (AT pl) 1)) (Ar xs)))
noncomputable def GN (pl:List PF):List PF:=if AT pl=0 then pl else Cq pl (Ao (AT pl))
def Ga {pl:List PF}(h:AT pl≠0):AT pl∈AM pl:=by
 rw[AT]at h⊢;cases hl:(AM pl).getLast? with
 |none=>rw[hl]at h;exact absurd rfl h
 |some x=>exact List.mem_of_getLast? hl
def Kb (pl:List PF):0<=AT pl/\AT pl<=999999999:=by
 by_cases h:AT pl=0
 ·omega
 have:=CF.1 (Ga h);omega
def Qi {w:World}{d:Nat}{F:Nat->Prop}{room:Int}{pl:List PF}(h:AJ w d F room pl)(name:ByteArray)(hs:name.size<=4294967295)(E:Int)(he:CX pl name=E):Calls prog 58 #[jp d,.string name] w
  (AU λv w'=>v= .tuple #[.int .i64 ((Iq pl name:Nat):Int),.int .i64 ((Yf pl name:Nat):Int),.int .i64 E]/\As w w'):=he▸gR h name hs
attribute [local irreducible] At BW Ar X
def NA (b d:Nat)(F:Nat->Prop)(room:Int)(pl:List PF)(w:World)(hb:AC w b [jp d] 161)(hD:AJ w d F room pl)(hbd:¬F b)(hL:A5 w):
  Calls prog 89 #[jp b] w (AU (λv w'=>v= .bool true/\As w w')):=by
 have hLs:=hL.size;refine kD (n:=13) func89 ?_;refine kE (DR (EW underlying89 rfl rfl) rfl) ?_;refine jT<|jO (DR (EW underlying23 rfl rfl) rfl) ?_;refine kE (BP rfl rfl rfl) ?_;refine jJ func89 ?_;exact⟨_,rfl,rfl,(Ae.refl _ w)⟩
def RC (a:Option Addr)(xs:List UInt8)(c:Nat)(w:World):
  Calls prog 90 #[.slice a xs.length c] w (AU (λv w'=>v= .int .i64 (BW xs)/\As w w')):=by
 refine kD (n:=11) func90 ?_;refine jF ?_ ?_
 ·intro hc3;refine kL func90 ?_;exact⟨_,rfl,by unfold BW;rw[if_pos (AaM Zo)],(Ae.refl _ w)⟩
 intro hc3;refine kK ?_ ?_
 ·intro hc7;refine kL func90 ?_;exact⟨_,rfl,by unfold BW;rw[if_neg (Dt Zo),if_pos Zo],(Ae.refl _ w)⟩
 intro hc7;refine kL func90 ?_;exact⟨_,rfl,by unfold BW;rw[if_neg (Dt Zo),if_neg Zo],(Ae.refl _ w)⟩
def Qj (b d:Nat)(F:Nat->Prop)(room:Int)(pl:List PF)(w:World)(hb:AC w b [jp d] 161)(hD:AJ w d F room pl)(hbd:¬F b)(hL:A5 w):
  Calls prog 114 #[jp b] w (AU (λv w'=>∃a' c',v= .slice a' (AM pl).length c'/\Af w' 3 a' c' (AM pl)/\(∀q,own a' q->w.heap.size<=q)/\As w w')):=by
 have hLs:=hL.size;have hok:=hD.ok;have hlen:=hok.len;have hsl:=EM pl;refine kD (n:=10) func114 ?_;refine kS (NA _ _ _ _ _ _ hb hD hbd hL) ?_;rintro _ a7 ⟨rfl,a0⟩;have K0:=(a0:As w _);refine kE (Bp (b:=true) rfl) ?_;refine kH ?_;replace hb:=hb.ext a0;replace hD:=hD.ext a0;replace hL:=hL.ext a0;refine kS (UJ _ _ _ _ _ _ hb hD hbd hL) ?_;rintro _ a8 ⟨a2,a3,rfl,a4,a1,a5⟩;have a6:=Bg K0.size a1;clear a1;refine kL func114 ?_;replace K0:=K0.ext a5;exact⟨_,rfl,a2,a3,rfl,a4,a6,K0⟩
def YX (b d:Nat)(F:Nat->Prop)(room:Int)(pl:List PF)(w:World)(hb:AC w b [jp d] 161)(hD:AJ w d F room pl)(hbd:¬F b)(hL:A5 w)(hFG:∀q,F q->7<=q):
  Calls prog 50 #[jp b] w (AU (Fs d F room w 0 (GN pl))):=by
 have hLs:=hL.size;have hnm:=B1 (AT pl);refine kD (n:=21) func50 ?_;refine kS (NA _ _ _ _ _ _ hb hD hbd hL) ?_;rintro _ a9 ⟨rfl,a0⟩;have K0:=(a0:As w _).to (S:=F);refine kE (Bp (b:=true) rfl) ?_;refine kH ?_;replace hb:=hb.ext a0;replace hD:=hD.ext a0;replace hL:=hL.ext a0;refine kS (UM _ _ _ _ _ _ hb hD hbd hL) ?_;rintro _ aa ⟨rfl,a1⟩;refine jG ?_;replace hb:=hb.ext a1;replace hD:=hD.ext a1;replace hL:=hL.ext a1;replace K0:=K0.ext a1;refine jF ?_ ?_
 ·intro hc12;refine kL func50 ?_;have hEq:GN pl=pl:=by rw[GN,if_pos hc12]
  rw[hEq];exact⟨_,rfl,F,rfl,hD,A1 (λq_ h_ _=>h_),K0⟩
 intro hc12;refine jG ?_;refine Ai.drawS [] [0,1,2,3,1004,5,2006,2007,8] ?_;intro ab a2;replace hb:=hb.ext a2;refine kF (jb hb Jn) ?_;replace hL:=hL.ext a2;refine jU rfl<|jC (CJ (AT pl) _ hL) ?_;rintro _ ac ⟨rfl,a3⟩;replace hb:=hb.ext a3;refine jG ?_;replace hD:=(hD.ext a2).ext a3;refine jU rfl<|jC (Ef (Oz hD (Ao (AT pl)) (by first|omega|decide)) (Is (Ga hc12)) rfl) ?_;rintro _ ad ⟨a4,rfl,a7,a5,a6⟩;replace K0:=(K0.ext a2).ext a3;have a8:∀q_,a4 q_->q_<w.heap.size->F q_:=a5.inS (λq_ h_ _=>h_) K0.size;replace K0:=K0.trans a6 (λx hlt hx=>(λq_ h_ _=>h_) x hx hlt);clear a5;replace hb:=hb.keep a6 hbd;refine kL func50 ?_;have hEq:GN pl=Cq pl (Ao (AT pl)):=by rw[GN,if_neg hc12]
 rw[hEq];exact⟨_,rfl,a4,rfl,a7,A1 a8,K0⟩
def EY (b d:Nat)(F:Nat->Prop)(room:Int)(pl:List PF)(a:Option Addr)(xs:List UInt8)(c:Nat)(w:World)(hb:AC w b [jp d] 161)(hD:AJ w d F room pl)(hbd:¬F b)(hL:A5 w)(hFG:∀q,F q->7<=q)(hs:Ax w a xs)(hdis:∀x,a=some x->¬F x.block):
  Calls prog 40 #[jp b,.slice a xs.length c] w (AU (Fs d F room w (Aw room pl xs).1 (Aw room pl xs).2)):=by
 have hLs:=hL.size;have hnm:=B1 (AT pl);have hll:=Kb pl;refine kD (n:=79) func40 ?_;refine kS (NA _ _ _ _ _ _ hb hD hbd hL) ?_;rintro _ aO ⟨rfl,a6⟩;have K0:=(a6:As w _).to (S:=F);refine kE (Bp (b:=true) rfl) ?_;refine kH ?_;refine kS (RC _ xs _ _) ?_;rintro _ aP ⟨rfl,a7⟩;refine jG ?_;replace hb:=(hb.ext a6).ext a7;replace hD:=(hD.ext a6).ext a7;replace hL:=(hL.ext a6).ext a7;replace K0:=K0.ext a7;refine jF ?_ ?_
 ·intro hc15;refine kL func40 ?_;have hEq:Aw room pl xs=(BW xs,pl):=by rw[Aw,if_pos hc15]
  rw[hEq];exact⟨_,rfl,F,rfl,hD,A1 (λq_ h_ _=>h_),K0⟩
 intro hc15;have hm0:BW xs=0:=hc15;rw[hm0];have hmk:=Rz hm0;refine jG ?_;refine kS (UM _ _ _ _ _ _ hb hD hbd hL) ?_;rintro _ aQ ⟨rfl,a8⟩;refine jG ?_;replace hb:=hb.ext a8;replace hD:=hD.ext a8;replace hL:=hL.ext a8;replace K0:=K0.ext a8;refine jF ?_ ?_
 ·intro hc22;skip;refine Ai.drawS [] [0,1,2,3,1004,5,2006,2007,8,9,10,11,12,13] ?_;intro aR a9;replace hb:=hb.ext a9;refine kF (jb hb Jn) ?_;replace hL:=hL.ext a9;refine jU rfl<|jC (CJ (AT pl) _ hL) ?_;rintro _ aS ⟨rfl,aa⟩;replace hb:=hb.ext aa;refine jG ?_;replace hD:=(hD.ext a9).ext aa;refine jU rfl<|jC (Qi hD (Ao (AT pl)) (by first|omega|decide) 0 (Is (Ga Zo))) ?_;rintro _ aT ⟨rfl,ab⟩;replace hb:=hb.ext ab;refine jG ?_;refine kE (BP rfl rfl rfl) ?_;refine kE (Bo rfl rfl rfl) ?_;replace K0:=((K0.ext a9).ext aa).ext ab;replace hL:=(hL.ext aa).ext ab;replace hD:=hD.ext ab;refine jF ?_ ?_
  ·intro hc44;skip;refine jG ?_;refine Ai.drawS [] [0,1,2,3,1004,5,2006,2007,8] ?_;intro aU ac;replace hb:=hb.ext ac;refine kF (jb hb Jn) ?_;replace hL:=hL.ext ac;refine jU rfl<|jC (CJ (AT pl) _ hL) ?_;rintro _ aV ⟨rfl,ad⟩;replace hb:=hb.ext ad;refine jG ?_;replace hD:=(hD.ext ac).ext ad;refine jU rfl<|jC (Ef (Oz hD (Ao (AT pl)) (by first|omega|decide)) (Is (Ga Zo)) rfl) ?_;rintro _ aW ⟨ae,rfl,a0,af,ak⟩;have aD:¬ae b:=af.not hbd hb.lt;replace K0:=(K0.ext ac).ext ad;have al:∀q_,ae q_->q_<w.heap.size->F q_:=af.inS (λq_ h_ _=>h_) K0.size;have aE:∀q_,ae q_->7<=q_:=λq_ h_=>(af q_ h_).elim (hFG q_) (λh2_=>Aaa hLs (Aaa K0.size h2_));replace K0:=K0.trans ak (λx hlt hx=>(λq_ h_ _=>h_) x hx hlt);clear af;replace hb:=hb.keep ak hbd;refine jG ?_;refine kE (Av rfl rfl Zo Zo) ?_;refine kH ?_;refine kE (I1 rfl rfl) ?_;replace hL:=(hL.ext ad).keep ak hFG;refine jF ?_ ?_
   ·intro hc61;refine kL func40 ?_;have hEq:Aw room pl xs=(70,Cq pl (Ao (AT pl))):=by rw[Aw,if_neg (by rw[hm0];decide),if_pos ⟨by omega,by omega⟩,if_pos hc61]
    rw[hEq];exact⟨_,rfl,ae,rfl,a0,A1 al,K0⟩
   intro hc61;have hnm1:=B1 (max (AT pl+1) 1);have hnm2:=B1 (max (AT pl) 1);have hfb:=CI xs Zo;refine jG ?_;refine kS (KW _ _ _ _ (hs.keep K0 hdis) (by first|omega|(simp;done))) ?_;rintro _ aX ⟨aY,aZ,rfl,am,ar,ag⟩;have aF:=Ag ar a0.oL;clear ar;refine kG ?_;refine Ai.drawS [] [0,1,2,3,1004,5,7,2006,2008,9] ?_;intro b0 a1;replace hb:=(hb.ext ag).ext a1;refine kF (jb hb Jn) ?_;replace hL:=(hL.ext ag).ext a1;refine jU rfl<|jC (CJ (max ((AT pl)+1) 1) _ hL) ?_;rintro _ b1 ⟨rfl,a2⟩;replace hb:=hb.ext a2;refine jG ?_;replace a0:=((a0.ext ag).ext a1).ext a2;replace am:=(am.ext a1).ext a2;refine jU rfl<|jC (J4 a0 (Ao (max ((AT pl)+1) 1)) _ _ _ (by first|omega|decide) am.sl (λx_ hx_=>aF _ ⟨x_,hx_,rfl⟩) (by first|omega|decide)) ?_;rintro _ b2 ⟨au,rfl,aG,av,an⟩;replace K0:=((K0.ext ag).ext a1).ext a2;have aH:∀q_,au q_->q_<w.heap.size->F q_:=av.inS al K0.size;replace K0:=K0.trans an (λx hlt hx=>al x hx hlt);clear av;replace hb:=hb.keep an aD;refine kL func40 ?_;have hEq:Aw room pl xs=(Df room (Cq pl (Ao (AT pl))) (Ao (max ((AT pl)+1) 1)) (Ar xs),Do room (Cq pl (Ao (AT pl))) (Ao (max ((AT pl)+1) 1)) (Ar xs)):=by rw[Aw,if_neg (by rw[hm0];decide),if_pos ⟨by omega,by omega⟩,if_neg Zo]
   rw[hEq];replace hL:=(hL.ext a2).keep an aE;exact⟨_,rfl,au,rfl,aG,A1 aH,K0⟩
  intro hc44;skip;refine kG ?_;refine kE (I1 rfl rfl) ?_;refine jF ?_ ?_
  ·intro hc61;refine kL func40 ?_;have hEq:Aw room pl xs=(70,pl):=by rw[Aw,if_neg (by rw[hm0];decide),if_neg Zo,if_pos hc61]
   rw[hEq];exact⟨_,rfl,F,rfl,hD,A1 (λq_ h_ _=>h_),K0⟩
  intro hc61;have hnm1:=B1 (max (AT pl+1) 1);have hnm2:=B1 (max (AT pl) 1);have hfb:=CI xs Zo;refine jG ?_;refine kS (KW _ _ _ _ (hs.keep K0 hdis) (by first|omega|(simp;done))) ?_;rintro _ b3 ⟨b4,b5,rfl,ao,aw,ah⟩;have aI:=Ag aw hD.oL;clear aw;refine kG ?_;refine Ai.drawS [] [0,1,2,3,1004,5,7,2006,2008,9] ?_;intro b6 a3;replace hb:=(hb.ext ah).ext a3;refine kF (jb hb Jn) ?_;replace hL:=(hL.ext ah).ext a3;refine jU rfl<|jC (CJ (max (AT pl) 1) _ hL) ?_;rintro _ b7 ⟨rfl,a4⟩;replace hb:=hb.ext a4;refine jG ?_;replace hD:=((hD.ext ah).ext a3).ext a4;replace ao:=(ao.ext a3).ext a4;refine jU rfl<|jC (J4 hD (Ao (max (AT pl) 1)) _ _ _ (by first|omega|decide) ao.sl (λx_ hx_=>aI _ ⟨x_,hx_,rfl⟩) (by first|omega|decide)) ?_;rintro _ b8 ⟨ax,rfl,aJ,ay,ap⟩;replace K0:=((K0.ext ah).ext a3).ext a4;have aK:∀q_,ax q_->q_<w.heap.size->F q_:=ay.inS (λq_ h_ _=>h_) K0.size;replace K0:=K0.trans ap (λx hlt hx=>(λq_ h_ _=>h_) x hx hlt);clear ay;replace hb:=hb.keep ap hbd;refine kL func40 ?_;have hEq:Aw room pl xs=(Df room pl (Ao (max (AT pl) 1)) (Ar xs),Do room pl (Ao (max (AT pl) 1)) (Ar xs)):=by rw[Aw,if_neg (by rw[hm0];decide),if_neg Zo,if_neg Zo]
  rw[hEq];replace hL:=(hL.ext a4).keep ap hFG;exact⟨_,rfl,ax,rfl,aJ,A1 aK,K0⟩
 intro hc22;skip;refine jG ?_;refine jV (BP rfl rfl rfl) ?_;refine ET ?_;refine jW ?_ (hx:=by exact λhg=>(DK (Ob (B4 hg) rfl) Zd));refine kE (Bo rfl rfl rfl) ?_;refine jF ?_ ?_
 ·intro hc44;simp at hc44
 intro hc44;skip;refine kG ?_;refine kE (I1 rfl rfl) ?_;refine jF ?_ ?_
 ·intro hc61;refine kL func40 ?_;have hEq:Aw room pl xs=(70,pl):=by rw[Aw,if_neg (by rw[hm0];decide),if_neg Zo,if_pos hc61]
  rw[hEq];exact⟨_,rfl,F,rfl,hD,A1 (λq_ h_ _=>h_),K0⟩
 intro hc61;have hnm1:=B1 (max (AT pl+1) 1);have hnm2:=B1 (max (AT pl) 1);have hfb:=CI xs Zo;refine jG ?_;refine kS (KW _ _ _ _ (hs.keep K0 hdis) (by first|omega|(simp;done))) ?_;rintro _ b9 ⟨ba,bb,rfl,aq,az,ai⟩;have aL:=Ag az hD.oL;clear az;refine kG ?_;refine Ai.drawS [] [0,1,2,3,1004,5,7,2006,2008,9] ?_;intro bc a5;replace hb:=(hb.ext ai).ext a5;refine kF (jb hb Jn) ?_;replace hL:=(hL.ext ai).ext a5;refine jU rfl<|jC (CJ (max (AT pl) 1) _ hL) ?_;rintro _ be ⟨rfl,aj⟩;replace hb:=hb.ext aj;refine jG ?_;replace hD:=((hD.ext ai).ext a5).ext aj;replace aq:=(aq.ext a5).ext aj;refine jU rfl<|jC (J4 hD (Ao (max (AT pl) 1)) _ _ _ (by first|omega|decide) aq.sl (λx_ hx_=>aL _ ⟨x_,hx_,rfl⟩) (by first|omega|decide)) ?_;rintro _ bg ⟨aA,rfl,aM,aB,aC⟩;replace K0:=((K0.ext ai).ext a5).ext aj;have aN:∀q_,aA q_->q_<w.heap.size->F q_:=aB.inS (λq_ h_ _=>h_) K0.size;replace K0:=K0.trans aC (λx hlt hx=>(λq_ h_ _=>h_) x hx hlt);clear aB;replace hb:=hb.keep aC hbd;refine kL func40 ?_;have hEq:Aw room pl xs=(Df room pl (Ao (max (AT pl) 1)) (Ar xs),Do room pl (Ao (max (AT pl) 1)) (Ar xs)):=by rw[Aw,if_neg (by rw[hm0];decide),if_neg Zo,if_neg Zo]
 rw[hEq];exact⟨_,rfl,aA,rfl,aM,A1 aN,K0⟩
def UQ (b d:Nat)(F:Nat->Prop)(room:Int)(pl:List PF)(w:World)(hb:AC w b [jp d] 161)(hD:AJ w d F room pl)(hbd:¬F b)(hL:A5 w)(hFG:∀q,F q->7<=q):Calls prog 113 #[jp b] w (AU λv w'=>∃F',AJ w' d F' room (At room pl).2.2/\AR w F F'/\Ae F w w'/\(((At room pl).1=0/\∃a' c',∃rs:List RB,v= .tuple #[.slice a' (rs.map RB.h).length c',.int .i64 0]/\Af w' 98 a' c' (rs.map RB.h)/\Bk w' rs/\rs.map RB.b=(At room pl).2.1/\(∀q,own a' q->w.heap.size<=q)/\(∀q,Az rs q->w.heap.size<=q)/\(∀q,own a' q->¬Az rs q)/\(∀q,own a' q->¬F' q)/\(∀q,Az rs q->¬F' q))\/((At room pl).1≠0/\v= .tuple #[.slice none 0 0,.int .i64 (At room pl).1]))):=by
 unfold At;exact YW b d F room pl w hb hD hbd hL hFG
def YY (d:Nat)(F:Nat->Prop)(room:Int)(pl:List PF)(w:World)(hD:AJ w d F room pl)(hL:A5 w)(hFG:∀q,F q->7<=q):
  Calls prog 59 #[jp d] w (AU (λv w'=>∃F',AJ w' d F' room (A7 room pl).2.2/\AR w F F'/\Ae F w w'/\(((A7 room pl).1=0/\∃a' c',∃rs:List RB,∃b,v= .tuple #[jp b,.slice a' (rs.map RB.h).length c',.int .i64 0]/\AC w' b [jp d] 161/\¬F' b/\w.heap.size<=b/\Af w' 98 a' c' (rs.map RB.h)/\Bk w' rs/\rs.map RB.b=(A7 room pl).2.1/\(∀q,own a' q->w.heap.size<=q)/\(∀q,Az rs q->w.heap.size<=q)/\(∀q,own a' q->¬Az rs q)/\(∀q,own a' q->¬F' q)/\(∀q,Az rs q->¬F' q))\/((A7 room pl).1≠0/\v= .tuple #[.pointer none,.slice none 0 0,.int .i64 (A7 room pl).1])))):=by
 have hLs:=hL.size;have hfs:freshN.size=7:=rfl;refine Ac (n:=60) func59 rfl rfl rfl ?_;refine ET ?_;refine FU ?_;by_cases hfr:CN pl freshN=true
 ·refine jG ?_;refine kS (Qi hD freshN (by first|omega|decide) 0 (DZ fresh_may hfr)) ?_;rintro _ bY ⟨rfl,aJ⟩;have K0:=(aJ:As w _).to (S:=F);refine kG ?_;refine C8 ?_;refine jG ?_;replace hD:=hD.ext aJ;refine kS (Ef (Hk hD freshN (by first|omega|decide)) (DZ fresh_may hfr) rfl) ?_;rintro _ bZ ⟨b2,rfl,aC,aK,b3⟩;have aD:∀q_,b2 q_->q_<w.heap.size->F q_:=aK.inS (λq_ h_ _=>h_) K0.size;have aE:∀q_,b2 q_->7<=q_:=λq_ h_=>(aK q_ h_).elim (hFG q_) (λh2_=>Aaa hLs (Aaa K0.size h2_));replace K0:=K0.trans b3 (λx hlt hx=>(λq_ h_ _=>h_) x hx hlt);clear aK;refine kG ?_;refine jV (AO (cells:=#[jp d]) Zk) ?_;refine jV (AO (cells:=#[jp d]) Zk) ?_;refine kQ ?_;intro aa c0 aL a0 aM;have aN:=An aC.oL aL;have:=Aaa K0.size aL;clear aL;refine jG ?_;replace hL:=((hL.ext aJ).keep b3 hFG).ext aM;replace aC:=aC.ext aM;refine kS (UQ _ _ _ _ _ _ a0 aC aN hL aE) ?_;rintro vv c1 ⟨au,a8,ag,av,aw⟩;replace K0:=K0.ext aM;rcases aw with aw|aw
  ·obtain⟨bi,ah,aF,ai,rfl,a2,a3,bj,bk,bl,bm,bn,bo⟩:=aw;have bp:=Bg K0.size bk;have bq:=Bg K0.size bl;have b4:¬au aa:=ag.not aN a0.lt;have bs:∀q_,au q_->q_<w.heap.size->F q_:=ag.inS aD K0.size;have bt:∀q_,au q_->7<=q_:=λq_ h_=>(ag q_ h_).elim (aE q_) (λh2_=>Aaa hLs (Aaa K0.size h2_));replace K0:=K0.trans av (λx hlt hx=>aD x hx hlt);clear ag;refine kG ?_;replace hL:=hL.keep av aE;replace a0:=a0.keep av aN;refine kS (Qj _ _ _ _ _ _ a0 a8 b4 hL) ?_;rintro _ c2 ⟨aG,b5,rfl,a6,b6,aj⟩;have bu:=Ag b6 a8.oL;clear b6;have hsl:=EM (At room (Br pl freshN)).2.2;replace a8:=a8.ext aj;have hlen2:=a8.ok.len;refine jG ?_;replace hL:=hL.ext aj;replace a0:=a0.ext aj;replace a2:=a2.ext aj;replace a3:=a3.ext aj;replace K0:=K0.ext aj;refine Ai.loop (ι:=Nat) (λi ρ' w'=>∃Fk:Nat->Prop,Holds ρ' [(0,jp d),(8,jp aa),(9,.slice ah ((ai.map RB.h).length) aF),(44,.slice aG ((AM ((At room (Br pl freshN)).2.2)).length) b5),(45,.int .i64 (((AM ((At room (Br pl freshN)).2.2)).length:Nat):Int)),(46,.int .i64 ((i:Nat):Int)),(7,.int .i64 0)]/\Ae F w w'/\(A5 w')/\(AC w' aa [jp d] 161)/\(Af w' 98 ah aF (ai.map RB.h))/\(Bk w' ai)/\(Af w' 3 aG b5 (AM ((At room (Br pl freshN)).2.2)))/\(AJ w' d Fk room (CQ (At room (Br pl freshN)).2.2 ((AM (At room (Br pl freshN)).2.2).take i)))/\(¬Fk aa)/\(∀q_,Fk q_->¬own ah q_)/\(∀q_,Fk q_->¬Az ai q_)/\(∀q_,Fk q_->¬own aG q_)/\(∀q_,Fk q_->q_<w.heap.size->F q_)/\(∀q_,Fk q_->7<=q_)/\(i<=(AM (At room (Br pl freshN)).2.2).length)) (λi=>(AM (At room (Br pl freshN)).2.2).length-i) 0 ?_ ?_
   ·rw[show CQ (At room (Br pl freshN)).2.2 ((AM (At room (Br pl freshN)).2.2).take 0)=(At room (Br pl freshN)).2.2 by rw[AaF,HZ]];refine⟨_,⟨rfl,rfl,rfl,rfl,rfl,rfl,rfl,trivial⟩,K0,hL,a0,a2,a3,a6,a8,b4,(Zf bn),(Zf bo),(Zf bu),bs,bt,?_⟩;omega
   clear a0 a8 a2 a3 a6;clear K0;rintro i c3 c4 ⟨Fk,b7,K0,hL,a0,a2,a3,a6,ax,aO,aP,aQ,b8,aR,b9,hi⟩ ih1;obtain⟨ρ₀,rfl⟩:=b7.ex;clear b7;refine kK ?_ ?_
   ·intro hc47;obtain⟨c5,c6,n,hn,c7,c8⟩:=a6.sl.eo i;have hnm:=B1 n;refine jG ?_;refine kS (CJ n _ hL) ?_;rintro _ c9 ⟨rfl,ab⟩;replace ax:=ax.ext ab;refine jR<|jC (Ef (Oz ax (Ao n) (by first|omega|decide)) (DZ (Da (CF.1 (Aan hn)).1 (CF.1 (Aan hn)).2.1) (Mz (CF.1 (Aan hn)).2.2)) rfl) ?_;rintro _ ca ⟨ak,rfl,bv,ac,al⟩;replace a0:=a0.ext ab;have bw:¬ak aa:=ac.not aO a0.lt;replace a2:=a2.ext ab;have bx:∀q_,ak q_->¬own ah q_:=ac.apart aP a2.oL;replace a3:=a3.ext ab;have bz:∀q_,ak q_->¬Az ai q_:=ac.apart aQ a3.oL;replace a6:=a6.ext ab;have bA:∀q_,ak q_->¬own aG q_:=ac.apart b8 a6.oL;replace K0:=K0.ext ab;have bB:∀q_,ak q_->q_<w.heap.size->F q_:=ac.inS aR K0.size;have bC:∀q_,ak q_->7<=q_:=λq_ h_=>(ac q_ h_).elim (b9 q_) (λh2_=>Aaa hLs (Aaa K0.size h2_));replace K0:=K0.trans al (λx hlt hx=>aR x hx hlt);clear ac;refine kG ?_;refine kC i ?_;have e:=My (pl:=(At room (Br pl freshN)).2.2) hn;refine ih1 (i+1) _ _ ?_ Zo;rw[e];replace hL:=(hL.ext ab).keep al b9;replace a0:=a0.keep al aO;replace a2:=a2.kO al (Zf aP);replace a3:=a3.kO al (Zf aQ);replace a6:=a6.kO al (Zf b8);refine⟨_,⟨rfl,rfl,rfl,rfl,rfl,rfl,rfl,trivial⟩,K0,hL,a0,a2,a3,a6,bv,bw,bx,bz,bA,bB,bC,?_⟩
    omega
   intro hc47;refine jG ?_;refine Ai.ret3 (v:=jp aa) (x:= .slice ah ((ai.map RB.h).length) aF) (y:= .int .i64 0) func59 rfl rfl rfl rfl ?_;have hie:i=(AM (At room (Br pl freshN)).2.2).length:=by omega
   subst hie;rw[Aap]at ax;have hEq:A7 room pl=(0,(At room (Br pl freshN)).2.1,CQ (At room (Br pl freshN)).2.2 (AM (At room (Br pl freshN)).2.2)):=by rw[A7,if_pos bi]
   rw[hEq];exact⟨_,rfl,Fk,ax,A1 aR,K0,.inl ⟨rfl,ah,aF,_,aa,rfl,a0,aO,by omega,a2,a3,bj,bp,bq,bm,(Zf aP),(Zf aQ)⟩⟩
  obtain⟨aS,rfl⟩:=aw;have bD:∀q_,au q_->q_<w.heap.size->F q_:=ag.inS aD K0.size;replace K0:=K0.trans av (λx hlt hx=>aD x hx hlt);clear ag;refine jG ?_;replace hL:=hL.keep av aE;refine jF ?_ ?_
  ·intro hc41;refine jG ?_;refine Ai.ret3 (v:= .pointer none) (x:= .slice none 0 0) (y:= .int .i64 ((At room (Br pl freshN)).1)) func59 rfl rfl rfl rfl ?_;have hEq:A7 room pl=((At room (Br pl freshN)).1,[],(At room (Br pl freshN)).2.2):=by rw[A7,if_neg aS]
   rw[hEq];exact⟨_,rfl,au,a8,A1 bD,K0,.inr ⟨aS,rfl⟩⟩
  intro hc41;exact absurd hc41 aS
 refine jG ?_;refine kS (Qi hD freshN (by first|omega|decide) 20 (LZ (by simpa using hfr))) ?_;rintro _ cb ⟨rfl,aT⟩;have K0:=(aT:As w _).to (S:=F);refine kG ?_;refine Ai.condF rfl ?_;replace hD:=hD.ext aT;rw[show pl=Br pl freshN from(Qh (by simpa using hfr)).symm]at hD;refine jG ?_;refine jV (AO (cells:=#[jp d]) Zk) ?_;refine jV (AO (cells:=#[jp d]) Zk) ?_;refine kQ ?_;intro ad cc aU a1 aV;have aW:=An hD.oL aU;have:=Aaa K0.size aU;clear aU;refine jG ?_;replace hL:=(hL.ext aT).ext aV;replace hD:=hD.ext aV;refine kS (UQ _ _ _ _ _ _ a1 hD aW hL hFG) ?_;rintro vv cd ⟨ay,a9,am,az,aA⟩;replace K0:=K0.ext aV;rcases aA with aA|aA
 ·obtain⟨bE,an,aH,ao,rfl,a4,a5,bF,bG,bH,bI,bJ,bK⟩:=aA;have bL:=Bg K0.size bG;have bM:=Bg K0.size bH;have ba:¬ay ad:=am.not aW a1.lt;have bN:∀q_,ay q_->q_<w.heap.size->F q_:=am.inS (λq_ h_ _=>h_) K0.size;have bO:∀q_,ay q_->7<=q_:=λq_ h_=>(am q_ h_).elim (hFG q_) (λh2_=>Aaa hLs (Aaa K0.size h2_));replace K0:=K0.trans az (λx hlt hx=>(λq_ h_ _=>h_) x hx hlt);clear am;refine kG ?_;replace hL:=hL.keep az hFG;replace a1:=a1.keep az aW;refine kS (Qj _ _ _ _ _ _ a1 a9 ba hL) ?_;rintro _ ce ⟨aI,bb,rfl,a7,bc,ap⟩;have bP:=Ag bc a9.oL;clear bc;have hsl:=EM (At room (Br pl freshN)).2.2;replace a9:=a9.ext ap;have hlen2:=a9.ok.len;refine jG ?_;replace hL:=hL.ext ap;replace a1:=a1.ext ap;replace a4:=a4.ext ap;replace a5:=a5.ext ap;replace K0:=K0.ext ap;refine Ai.loop (ι:=Nat) (λi ρ' w'=>∃Fk:Nat->Prop,Holds ρ' [(0,jp d),(8,jp ad),(9,.slice an ((ao.map RB.h).length) aH),(44,.slice aI ((AM ((At room (Br pl freshN)).2.2)).length) bb),(45,.int .i64 (((AM ((At room (Br pl freshN)).2.2)).length:Nat):Int)),(46,.int .i64 ((i:Nat):Int)),(7,.int .i64 0)]/\Ae F w w'/\(A5 w')/\(AC w' ad [jp d] 161)/\(Af w' 98 an aH (ao.map RB.h))/\(Bk w' ao)/\(Af w' 3 aI bb (AM ((At room (Br pl freshN)).2.2)))/\(AJ w' d Fk room (CQ (At room (Br pl freshN)).2.2 ((AM (At room (Br pl freshN)).2.2).take i)))/\(¬Fk ad)/\(∀q_,Fk q_->¬own an q_)/\(∀q_,Fk q_->¬Az ao q_)/\(∀q_,Fk q_->¬own aI q_)/\(∀q_,Fk q_->q_<w.heap.size->F q_)/\(∀q_,Fk q_->7<=q_)/\(i<=(AM (At room (Br pl freshN)).2.2).length)) (λi=>(AM (At room (Br pl freshN)).2.2).length-i) 0 ?_ ?_
  ·rw[show CQ (At room (Br pl freshN)).2.2 ((AM (At room (Br pl freshN)).2.2).take 0)=(At room (Br pl freshN)).2.2 by rw[AaF,HZ]];refine⟨_,⟨rfl,rfl,rfl,rfl,rfl,rfl,rfl,trivial⟩,K0,hL,a1,a4,a5,a7,a9,ba,(Zf bJ),(Zf bK),(Zf bP),bN,bO,?_⟩;omega
  clear a1 a9 a4 a5 a7;clear K0;rintro i cf cg ⟨Fk,be,K0,hL,a1,a4,a5,a7,aB,aX,aY,aZ,bg,b0,bh,hi⟩ ih2;obtain⟨ρ₀,rfl⟩:=be.ex;clear be;refine kK ?_ ?_
  ·intro hc47;obtain⟨ch,ci,n,hn,cj,ck⟩:=a7.sl.eo i;have hnm:=B1 n;refine jG ?_;refine kS (CJ n _ hL) ?_;rintro _ cm ⟨rfl,ae⟩;replace aB:=aB.ext ae;refine jR<|jC (Ef (Oz aB (Ao n) (by first|omega|decide)) (DZ (Da (CF.1 (Aan hn)).1 (CF.1 (Aan hn)).2.1) (Mz (CF.1 (Aan hn)).2.2)) rfl) ?_;rintro _ cn ⟨aq,rfl,bQ,af,ar⟩;replace a1:=a1.ext ae;have bR:¬aq ad:=af.not aX a1.lt;replace a4:=a4.ext ae;have bS:∀q_,aq q_->¬own an q_:=af.apart aY a4.oL;replace a5:=a5.ext ae;have bT:∀q_,aq q_->¬Az ao q_:=af.apart aZ a5.oL;replace a7:=a7.ext ae;have bU:∀q_,aq q_->¬own aI q_:=af.apart bg a7.oL;replace K0:=K0.ext ae;have bV:∀q_,aq q_->q_<w.heap.size->F q_:=af.inS b0 K0.size;have bW:∀q_,aq q_->7<=q_:=λq_ h_=>(af q_ h_).elim (bh q_) (λh2_=>Aaa hLs (Aaa K0.size h2_));replace K0:=K0.trans ar (λx hlt hx=>b0 x hx hlt);clear af;refine kG ?_;refine kC i ?_;have e:=My (pl:=(At room (Br pl freshN)).2.2) hn;refine ih2 (i+1) _ _ ?_ Zo;rw[e];replace hL:=(hL.ext ae).keep ar bh;replace a1:=a1.keep ar aX;replace a4:=a4.kO ar (Zf aY);replace a5:=a5.kO ar (Zf aZ);replace a7:=a7.kO ar (Zf bg);refine⟨_,⟨rfl,rfl,rfl,rfl,rfl,rfl,rfl,trivial⟩,K0,hL,a1,a4,a5,a7,bQ,bR,bS,bT,bU,bV,bW,?_⟩
   omega
  intro hc47;refine jG ?_;refine Ai.ret3 (v:=jp ad) (x:= .slice an ((ao.map RB.h).length) aH) (y:= .int .i64 0) func59 rfl rfl rfl rfl ?_;have hie:i=(AM (At room (Br pl freshN)).2.2).length:=by omega
  subst hie;rw[Aap]at aB;have hEq:A7 room pl=(0,(At room (Br pl freshN)).2.1,CQ (At room (Br pl freshN)).2.2 (AM (At room (Br pl freshN)).2.2)):=by rw[A7,if_pos bE]
  rw[hEq];exact⟨_,rfl,Fk,aB,A1 b0,K0,.inl ⟨rfl,an,aH,_,ad,rfl,a1,aX,by omega,a4,a5,bF,bL,bM,bI,(Zf aY),(Zf aZ)⟩⟩
 obtain⟨b1,rfl⟩:=aA;have bX:∀q_,ay q_->q_<w.heap.size->F q_:=am.inS (λq_ h_ _=>h_) K0.size;replace K0:=K0.trans az (λx hlt hx=>(λq_ h_ _=>h_) x hx hlt);clear am;refine jG ?_;replace hL:=hL.keep az hFG;refine jF ?_ ?_
 ·intro hc41;refine jG ?_;refine Ai.ret3 (v:= .pointer none) (x:= .slice none 0 0) (y:= .int .i64 ((At room (Br pl freshN)).1)) func59 rfl rfl rfl rfl ?_;have hEq:A7 room pl=((At room (Br pl freshN)).1,[],(At room (Br pl freshN)).2.2):=by rw[A7,if_neg b1]
  rw[hEq];exact⟨_,rfl,ay,a9,A1 bX,K0,.inr ⟨b1,rfl⟩⟩
 intro hc41;exact absurd hc41 b1
end Go.Proofs.YtjkaicjmfgekjaaGreatDoor
namespace Go.Proofs.YtjkaicjmfgekjaaGreatDoor
open Go.Proofs.Tryz
attribute [local irreducible] RD RS AB RL RA RT CB Ai
def YZ (i:Nat)(h:i<=8):128^(9-i)=128*128^(9-(i+1)):=by
 rw[show 9-i=(9-(i+1))+1 by omega,Nat.pow_succ,Abc]
def UR (n p:Nat):n%128*p+n/128*(128*p)=n*p:=by
 rw[<-Nat.mul_assoc,<-Aa7];congr 1;omega
def ia (n:Nat):(UInt8.ofNat (n%128+128)).toNat=n%128+128:=by rw[UInt8.toNat_ofNat'];omega
def Y0 {n:Nat}(h:n<128):(UInt8.ofNat n).toNat=n:=by rw[UInt8.toNat_ofNat'];omega
def numL_vput : ∀ (n i acc : Nat) (rest : List UInt8), i <= 8 -> n < 128 ^ (9 - i) -> (i = 0 \/ 0 < n) -> Co i acc (Al n ++ rest) = .ok (acc + n * 2 ^ (7 * i), i + (Al n).length) := λn => by
  induction n using Nat.strongRecOn with
  | _ n ih =>
    intro i acc rest hi hn h0;by_cases c : n < 128
    · rw [Gy c, List.singleton_append];have hb := Y0 c;rw [Co, if_neg Zo, if_pos Zo, if_neg Zo, hb, Nat.mod_eq_of_lt c];simp
    have hi8 : i ≠ 8 := by
      intro e;subst e;exact c (by simpa using hn)
    have hb := ia n;rw [KU c, AaW, Co, if_neg Zo, if_neg Zo];rw [YZ i hi] at hn;rw [ih (n / 128) Zo (i + 1) _ rest Zo Zo (.inr Zo), hb, show (n % 128 + 128) % 128 = n % 128 by omega, Jc, Abs, UR];simp only [Aaj];congr 2;omega
def Xc {s:Nat}(h:s<4294967296):leL (WP s)=s:=by
 simp only[WP,leL,UInt8.toNat_ofNat'];omega
def Kd (s:Nat):(WP s).length=4:=rfl
section
variable {p rest:List UInt8}
def SX (h:p.length<=65536):C9 (Ar p++rest)= .ok (p,rest):=by
 have e:Ar p++rest=Al p.length++(p++(WP (CP p)++rest)):=by simp only[Ar,Aar]
 have hN:Co 0 0 (Ar p++rest)= .ok (p.length,(Al p.length).length):=by
  rw[e,numL_vput _ 0 0 _ Zd (by simp only[Nat.sub_zero];omega) (.inl rfl)];simp
 have d1:(Ar p++rest).drop (Al p.length).length=p++(WP (CP p)++rest):=by rw[e,AbG]
 have d2:(Ar p++rest).drop ((Al p.length).length+p.length)=WP (CP p)++rest:=by rw[<-Aa6,d1,AbG]
 have d3:(Ar p++rest).drop ((Al p.length).length+p.length+4)=rest:=by rw[<-Aa6,d2];exact List.drop_left' (Kd _)
 have hl:(Ar p++rest).length=(Al p.length).length+(p.length+(4+rest.length)):=by rw[e];simp only[Aab,Kd]
 have t1:((Ar p++rest).drop (Al p.length).length).take p.length=p:=by rw[d1,AbH]
 have t2:((Ar p++rest).drop ((Al p.length).length+p.length)).take 4=WP (CP p):=by rw[d2];exact List.take_left' (Kd _)
 have:=Rv hN Zo Zo (by rw[t2,t1,Xc (Rs p)])
 rw[this,t1,d3]
def frameB_ne :Ar p≠ []:=by
 intro e;have:=congrArg List.length e
 simp only[Ar,Aab,Kd,Aas]at this;omega
end
def frames_app : ∀ (ps : List (List UInt8)) (rest : List UInt8), (∀ p ∈ ps, p.length <= 65536) -> A0 (ps.flatMap Ar ++ rest) = (ps ++ (A0 rest).1, (A0 rest).2)
  | [], rest, _ => by simp
  | p :: ps, rest, h => by
    have hp := h p Zs;rw [Aa5, Aar, HY (by simp [frameB_ne]) (SX hp), frames_app ps rest λq hq => h q (by simp [hq])];rfl
def Qk (ps:List (List UInt8))(h:∀p∈ps,p.length<=65536):A0 (ps.flatMap Ar)=(ps,[]):=by
 have:=frames_app ps [] h
 rw[Aax,framesR_nil,Aax]at this;exact this
def steps_all : ∀ (ps acc : List (List UInt8)), (∀ p ∈ ps, p ≠ []) -> ps.foldl F8 acc = acc ++ ps
  | [], acc, _ => by simp
  | p :: ps, acc, h => by
    rw [AaK, F8, if_neg (h p Zs), steps_all ps _ λq hq => h q (by simp [hq])];simp
attribute [local irreducible] crcN CV CP F6 Co leL C9 Ao AM Eg En E7 Fv DY At BW Ar
def OK (w:World)(rs:List RB):Prop:=∀r∈rs,Ax w r.a r.b
def OK.ext {w w':World}{rs:List RB}(h:OK w rs)(k:As w w'):OK w' rs:=λr hr=>(h r hr).ext k
def Bk.q {w:World}{rs:List RB}(h:Bk w rs):OK w rs:=λr hr=>(h r hr).sl
def Lc {rs:List RB}{j:Nat}{s:SH}(hs:(rs.map RB.h)[j]? =some s):∃r,rs[j]? =some r/\s=r.h/\r∈rs:=by
 rw[Aaz,Aby]at hs;obtain⟨r,hr,rfl⟩:=hs;exact⟨r,hr,rfl,Aan hr⟩
end Go.Proofs.YtjkaicjmfgekjaaGreatDoor
namespace Go.Proofs.YtjkaicjmfgekjaaGreatDoor
open Go.Proofs.Tryz
attribute [local irreducible] RD RS AB RL RA RT CB Ai crcN CV CP F6 Co leL C9 Ao AM Eg En E7 Fv DY At BW Ar
def segsL_nil :AM []=[]:=by
 unfold AM En;have:BV []=[]:=by simp[BV,AV]
 rw[this];exact sortZ_nil
def name1_may :CW (Ao 1)=true:=Da Zd Zd
def OL (room:Int):At room []=(0,[],[]):=by unfold At;rw[segsL_nil];rfl
def OM (room:Int):A7 room []=(0,[],[]):=by
 have e:Br [] freshN=[]:=rfl;rw[A7,e,OL,if_pos rfl,segsL_nil,HZ]
def MA {b:List UInt8}(h0:0<b.length)(h1:b.length<=65536):BW b=0:=by unfold BW;rw[if_neg (Dt h0),if_neg Zo]
def ib (room:Int)(w:World)(h:0<=room/\room<=16777216):Calls prog 25 #[.int .i64 room] w (AU λv w'=>∃d F,v= .tuple #[jp d,.int .i64 0]/\AJ w' d F room []/\(∀q,F q->w.heap.size<=q)/\As w w'):=
 Ev (iZ room w) λv w' hh=>hh.elim (λh1=>absurd h h1.1) (λh1=>h1.2)
end Go.Proofs.YtjkaicjmfgekjaaGreatDoor
namespace Go.Proofs.YtjkaicjmfgekjaaGreatDoor
open Go.Proofs.Tryz
attribute [local irreducible] RD RS AB RL RA RT CB Ai crcN CV CP F6 Co leL C9 Ao AM Eg En E7 Fv DY At BW Ar
def mayL :List (List UInt8)->Int
 |[]=>0
 |b::r=>if BW b≠0 then BW b else mayL r
def mayL_at : ∀ {rs : List RB} {i : Nat} {r : RB}, (∀ q ∈ rs.take i, BW q.b = 0) -> rs[i]? = some r -> BW r.b ≠ 0 -> mayL (rs.map RB.b) = BW r.b
  | [], i, r, _, h, _ => by simp at h
  | x :: rs, 0, r, _, h, h2 => by
    simp at h; subst h;rw [Aaf, mayL, if_pos h2]
  | x :: rs, i + 1, r, h1, h, h2 => by
    rw [Aaf, mayL, if_neg (by simpa using h1 x Zs)];exact mayL_at (i := i) (λq hq => h1 q (by simp [hq])) (by simpa using h) h2
def mayL_ok : ∀ {rs : List RB}, (∀ q ∈ rs, BW q.b = 0) -> mayL (rs.map RB.b) = 0
  | [], _ => rfl
  | x :: rs, h => by
    rw [Aaf, mayL, if_neg (by simpa using h x Zs)];exact mayL_ok λq hq => h q (by simp [hq])
def L0 {rs:List RB}{i:Nat}{r:RB}{p:RB->Prop}(h:∀q∈rs.take i,p q)(hr:rs[i]? =some r)(h2:p r):∀q∈rs.take (i+1),p q:=by
 obtain⟨hi,rfl⟩:=List.getElem?_eq_some_iff.1 hr;intro q hq;rw[AaJ hi]at hq;rcases List.mem_append.1 hq with hq|hq
 ·exact h q hq
 simp only[Aah]at hq;subst hq;exact h2
def Ew (rs:List RB)(j:Nat):List UInt8:=Ar []++((rs.map RB.b).take j).flatMap Ar
def MB {rs:List RB}{j:Nat}{r:RB}(h:rs[j]? =some r):Ew rs (j+1)=Ew rs j++Ar r.b:=by
 have g1:(rs.map RB.b)[j]? =some r.b:=by rw[Aaz,h];rfl
 rw[Ew,Ew,List.take_add_one,g1,Abq,Aar];simp
def Xd (rs:List RB)(j:Nat):(Ew rs j).length<=(Ew rs rs.length).length:=by
 have:rs.map RB.b=(rs.map RB.b).take j++(rs.map RB.b).drop j:=(AbK _ _).symm
 have h2:(rs.map RB.b).take rs.length=rs.map RB.b:=AaB Zs;rw[Ew,Ew,h2];conv=>rhs;rw[this]
 rw[Abq];simp only[Aab];omega
def G5 (rs:List RB):Ew rs rs.length=Ar []++(rs.map RB.b).flatMap Ar:=by rw[Ew,AaB Zs]
noncomputable def Ba (room:Int)(pl:List PF)(bs:List (List UInt8)):Int×List PF:=
 if mayL bs≠0 then(mayL bs,pl)else if 999999999<AT pl+1 then(70,pl)else
 if (BR room pl (Ar []++bs.flatMap Ar) (AT pl+1)).1=0 then(0,Cs (BR room pl (Ar []++bs.flatMap Ar) (AT pl+1)).2 (AM pl))
 else((BR room pl (Ar []++bs.flatMap Ar) (AT pl+1)).1,Br (BR room pl (Ar []++bs.flatMap Ar) (AT pl+1)).2 freshN)
def Ql (pl:List PF)(ns:List Int)(n:Int):Cs pl (ns++[n])=Br (Cs pl ns) (Ao n):=by
 rw[Cs,Br,Cs,AbX];refine List.filter_congr λf _=> ?_;by_cases h:f.name=Ao n<;>simp[h]
def US {pl:List PF}{ns:List Int}{i:Nat}{n:Int}(h:ns[i]? =some n):Cs pl (ns.take (i+1))=Br (Cs pl (ns.take i)) (Ao n):=by
 obtain⟨hi,rfl⟩:=List.getElem?_eq_some_iff.1 h;rw[AaJ hi,Ql]
def UT {pl:List PF}{m:Int}(h:m∈AM pl):m<=AT pl:=by
 have hs:(AM pl).Pairwise (·<=·):=by unfold AM;exact Ir _
 have hl:AT pl=(AM pl).getLast (List.ne_nil_of_mem h):=by rw[AT,List.getLast?_eq_some_getLast (List.ne_nil_of_mem h)];rfl
 rw[hl];have e:=List.dropLast_concat_getLast (List.ne_nil_of_mem h);rw[<-e]at h hs;rcases List.mem_append.1 h with h|h
 ·exact(List.pairwise_append.1 hs).2.2 m h _ Zs
 simp only[Aah]at h;omega
def ON {room:Int}{pl:List PF}{bs:List (List UInt8)}(h:mayL bs≠0):Ba room pl bs=(mayL bs,pl):=by rw[Ba,if_pos h]
def NB {room:Int}{pl:List PF}{bs:List (List UInt8)}(h:mayL bs=0)(h2:999999999<AT pl+1):Ba room pl bs=(70,pl):=by rw[Ba,if_neg (by simpa using h),if_pos h2]
def Qm {room:Int}{pl:List PF}{bs:List (List UInt8)}(h:mayL bs=0)(h2:¬999999999<AT pl+1)(h3:(BR room pl (Ar []++bs.flatMap Ar) (AT pl+1)).1=0):
  Ba room pl bs=(0,Cs (BR room pl (Ar []++bs.flatMap Ar) (AT pl+1)).2 (AM pl)):=by rw[Ba,if_neg (by simpa using h),if_neg h2,if_pos h3]
def Qn {room:Int}{pl:List PF}{bs:List (List UInt8)}(h:mayL bs=0)(h2:¬999999999<AT pl+1)(h3:(BR room pl (Ar []++bs.flatMap Ar) (AT pl+1)).1≠0):
  Ba room pl bs=((BR room pl (Ar []++bs.flatMap Ar) (AT pl+1)).1,Br (BR room pl (Ar []++bs.flatMap Ar) (AT pl+1)).2 freshN):=by rw[Ba,if_neg (by simpa using h),if_neg h2,if_neg h3]
attribute [local irreducible] X
def SY (b d:Nat)(F:Nat->Prop)(room:Int)(pl:List PF)(a:Option Addr)(rs:List RB)(c:Nat)(w:World)(hb:AC w b [jp d] 161)(hD:AJ w d F room pl)(hbd:¬F b)(hL:A5 w)(hFG:∀q,F q->7<=q)(hs:Ax w a (rs.map RB.h))(hsd:∀x,a=some x->¬F x.block)(hQ:OK w rs)(hQF:∀r∈rs,r.b≠ []->∀x,r.a=some x->¬F x.block)(hl:rs.length<=4294967295)(hsum:(Ew rs rs.length).length<=1073741824):
  Calls prog 69 #[jp b,.slice a ((rs.map RB.h).length) c] w (AU (Fs d F room w (Ba room pl (rs.map RB.b)).1 (Ba room pl (rs.map RB.b)).2)):=by
 have hLs:=hL.size;have hok:=hD.ok;have hlen:=hok.len;have hsl:=EM pl;have hll:=Kb pl;have hrl0:(rs.map RB.h).length=rs.length:=Aad ..;have hfs:freshN.size=7:=rfl;have hfn:=CI [] Zd;simp only[Aas]at hfn;refine kD (n:=99) func69 ?_;refine kS (NA _ _ _ _ _ _ hb hD hbd hL) ?_;rintro _ bi ⟨rfl,al⟩;have K0:=(al:As w _).to (S:=F);refine kE (Bp (b:=true) rfl) ?_;refine kH ?_;replace hb:=hb.ext al;replace hD:=hD.ext al;replace hL:=hL.ext al;refine Ai.loop (ι:=Nat) (λi ρ' w'=>Holds ρ' [(0,jp b),(1,.slice a ((rs.map RB.h).length) c),(21,.slice a ((rs.map RB.h).length) c),(22,.int .i64 (((rs.map RB.h).length:Nat):Int)),(23,.int .i64 ((i:Nat):Int))]/\Ae F w w'/\(AC w' b [jp d] 161)/\(A5 w')/\(AJ w' d F room pl)/\(i<=rs.length)/\(∀q∈rs.take i,BW q.b=0)) (λi=>rs.length-i) 0 ?_ ?_
 ·refine⟨⟨rfl,rfl,rfl,rfl,rfl,trivial⟩,K0,hb,hL,hD,?_,?_⟩
  ·omega
  intro q h;exact absurd h Zs
 clear hb hD;clear K0;rintro i bj bk ⟨ax,K0,hb,hL,hD,hi,hm1⟩ ih1;obtain⟨ρ₀,rfl⟩:=ax.ex;clear ax;refine kK ?_ ?_
 ·intro hc24;refine Et ?_;obtain⟨bl,bm,hh_,hh,ay,ap⟩:=hs.eo i;have hc_9_lt:=ap.lt;refine jV (AY underlying130 ty98 rfl rfl ay Zl) ?_;obtain⟨r,hr,hre,hrm⟩:=Lc hh;subst hre;have hrl_:r.h.len=r.b.length:=rfl;replace ap:=ap.keep K0 (hsd _ ay);refine jG ?_;refine kS (RC _ r.b _ _) ?_;rintro _ bn ⟨rfl,am⟩;refine jG ?_;replace hb:=hb.ext am;replace hL:=hL.ext am;replace hD:=hD.ext am;replace K0:=K0.ext am;refine jF ?_ ?_
  ·intro hc30;refine kL func69 ?_;have hEq:Ba room pl (rs.map RB.b)=(BW r.b,pl):=(ON (by rw[mayL_at hm1 hr hc30];exact hc30)).trans (by rw[mayL_at hm1 hr hc30]);rw[hEq];exact⟨_,rfl,F,rfl,hD,A1 (λq_ h_ _=>h_),K0⟩
  intro hc30;refine jG ?_;refine kC i ?_;refine ih1 (i+1) _ _ ?_ Zo;refine⟨⟨rfl,rfl,rfl,rfl,rfl,trivial⟩,K0,hb,hL,hD,?_,?_⟩
  ·omega
  exact L0 (p:=λq=>BW q.b=0) hm1 hr hc30
 intro hc24;have hmA:∀q∈rs,BW q.b=0:=by rw[show i=rs.length by omega,Aap]at hm1;exact hm1
 have hm0:=mayL_ok hmA;refine jG ?_;refine kS (Qj _ _ _ _ _ _ hb hD hbd hL) ?_;rintro _ bo ⟨a2,an,rfl,a0,az,ao⟩;have aA:=Ag az hD.oL;clear az;refine jG ?_;replace hb:=hb.ext ao;replace hL:=hL.ext ao;replace hD:=hD.ext ao;refine kS (UM _ _ _ _ _ _ hb hD hbd hL) ?_;rintro _ bp ⟨rfl,aa⟩;refine kE (Av rfl rfl Zo Zo) ?_;replace K0:=(K0.ext ao).ext aa;replace hb:=hb.ext aa;replace hL:=hL.ext aa;replace hD:=hD.ext aa;replace a0:=a0.ext aa;refine jF ?_ ?_
 ·intro hc41;refine kL func69 ?_;have hEq:Ba room pl (rs.map RB.b)=(70,pl):=NB hm0 hc41;rw[hEq];exact⟨_,rfl,F,rfl,hD,A1 (λq_ h_ _=>h_),K0⟩
 intro hc41;refine jG ?_;refine kS (KW none ([]:List UInt8) 0 _ (Ax.nil _ _) Zd) ?_;rintro _ bq ⟨aR,bs,rfl,aB,a3,ab⟩;have aS:=Ay a3 hb.lt;have aT:=Ag a3 hD.oL;have aU:=Ag a3 a0.oL;have aV:∀q_,own aR q_->q_<w.heap.size->F q_:=GY K0.size a3;have aW:=Bg K0.size a3;clear a3;refine jG ?_;replace hb:=hb.ext ab;replace hL:=hL.ext ab;replace hD:=hD.ext ab;replace a0:=a0.ext ab;replace K0:=K0.ext ab;refine Ai.loop (ι:=Nat) (λj ρ' w'=>∃aj:Option Addr,∃cj:Nat,Holds ρ' [(0,jp b),(8,.slice a2 ((AM pl).length) an),(9,.int .i64 ((AT pl)+1)),(10,.slice aj ((Ew rs j).length) cj),(11,.int .i64 0),(46,.slice a ((rs.map RB.h).length) c),(47,.int .i64 (((rs.map RB.h).length:Nat):Int)),(48,.int .i64 ((j:Nat):Int))]/\Ae F w w'/\(AC w' b [jp d] 161)/\(A5 w')/\(AJ w' d F room pl)/\(Af w' 3 a2 an (AM pl))/\(Af w' 5 aj cj (Ew rs j))/\(¬own aj b)/\(∀q_,own aj q_->¬F q_)/\(∀q_,own aj q_->¬own a2 q_)/\(∀q_,own aj q_->q_<w.heap.size->F q_)/\(∀q_,own aj q_->w.heap.size<=q_)/\(j<=rs.length)) (λj=>rs.length-j) 0 ?_ ?_
 ·rw[show Ew rs 0=Ar []by rw[Ew];simp];refine⟨_,_,⟨rfl,rfl,rfl,rfl,rfl,rfl,rfl,rfl,trivial⟩,K0,hb,hL,hD,a0,aB,aS,aT,aU,aV,aW,?_⟩;omega
 clear hb hD a0 aB;clear K0;rintro j bt bu ⟨aj,cj,aC,K0,hb,hL,hD,a0,a1,aD,ac,aE,aF,aG,hj⟩ ih2;obtain⟨ρ₀,rfl⟩:=aC.ex;clear aC;refine kK ?_ ?_
 ·intro hc49;refine Et ?_;obtain⟨bv,bw,hh_,hh,aH,aq⟩:=hs.eo j;have hc_49_lt:=aq.lt;refine jV (AY underlying130 ty98 rfl rfl aH Zl) ?_;obtain⟨r,hr,hre,hrm⟩:=Lc hh;subst hre;have hrl_:r.h.len=r.b.length:=rfl;have hrk:=Rz (hmA r hrm);have hfb:=CI r.b Zo;have hal:=Xd rs (j+1);rw[MB hr,Aab]at hal;replace aq:=aq.keep K0 (hsd _ aH);refine jG ?_;refine kS (KW _ _ _ _ ((hQ r hrm).keep K0 (hQF r hrm hrk.1)) (by first|omega|(simp;done))) ?_;rintro _ bx ⟨bz,bA,rfl,aX,aY,a4⟩;clear aY;refine kG ?_;replace a1:=a1.ext a4;refine jR<|AB.append (xs:=Ew rs j) (ys:=Ar r.b) underlying98 ty5 rfl rfl rfl a1 aX.sl Zo Zd ?_;intro ad bB bC aZ ae a5 b0;replace hb:=hb.ext a4;have b1:¬own ad b:=a5.not aD hb.lt;replace hD:=hD.ext a4;have b2:∀q_,own ad q_->¬F q_:=a5.apart ac hD.oL;replace a0:=a0.ext a4;have b3:∀q_,own ad q_->¬own a2 q_:=a5.apart aE a0.oL;replace K0:=K0.ext a4;have b4:∀q_,own ad q_->q_<w.heap.size->F q_:=a5.inS aF K0.size;have b5:∀q_,own ad q_->w.heap.size<=q_:=a5.ge aG K0.size;replace K0:=K0.trans ae (λx hlt hx=>aF x hx hlt);clear a5;clear b0;refine jG ?_;refine kC j ?_;refine ih2 (j+1) _ _ ?_ Zo;rw[MB hr];replace hL:=(hL.ext a4).keep ae (λq_ hq_=>Aaa hLs (aG q_ hq_));replace hb:=hb.keep ae aD;replace hD:=hD.kO ae (Zf ac);replace a0:=a0.kO ae (Zf aE);refine⟨_,_,⟨rfl,rfl,rfl,rfl,rfl,rfl,rfl,rfl,trivial⟩,K0,hb,hL,hD,a0,aZ,b1,b2,b3,b4,b5,?_⟩
  omega
 intro hc49;have hje:j=rs.length:=by omega
 subst hje;refine kI ?_;refine kS (Yh _ _ _ _ _ _ (Ew rs rs.length) _ ((AT pl)+1) _ hb hD hbd hL hFG a1.sl (λx_ hx_=>ac _ ⟨x_,hx_,rfl⟩) Zo) ?_;rintro _ bD ⟨af,rfl,ar,a6,ag⟩;have aI:¬af b:=a6.not hbd hb.lt;have b6:∀q_,af q_->¬own a2 q_:=a6.apart (Zf aA) a0.oL;have b7:∀q_,af q_->¬own aj q_:=a6.apart (Zf ac) a1.oL;have au:∀q_,af q_->q_<w.heap.size->F q_:=a6.inS (λq_ h_ _=>h_) K0.size;have aJ:∀q_,af q_->7<=q_:=λq_ h_=>(a6 q_ h_).elim (hFG q_) (λh2_=>Aaa hLs (Aaa K0.size h2_));replace K0:=K0.trans ag (λx hlt hx=>(λq_ h_ _=>h_) x hx hlt);clear a6;refine FU ?_;replace hb:=hb.keep ag hbd;replace hL:=hL.keep ag hFG;replace a0:=a0.kO ag aA;replace a1:=a1.kO ag ac;by_cases hsw:(BR room pl (Ew rs rs.length) ((AT pl)+1)).1=0
 ·rw[hsw];refine kG ?_;refine Ai.loop (ι:=Nat) (λk ρ' w'=>∃Fk:Nat->Prop,Holds ρ' [(0,jp b),(81,.slice a2 ((AM pl).length) an),(82,.int .i64 (((AM pl).length:Nat):Int)),(83,.int .i64 ((k:Nat):Int))]/\Ae F w w'/\(AC w' b [jp d] 161)/\(A5 w')/\(Af w' 3 a2 an (AM pl))/\(Af w' 5 aj cj (Ew rs rs.length))/\(AJ w' d Fk room (Cs (BR room pl (Ew rs rs.length) ((AT pl)+1)).2 ((AM pl).take k)))/\(¬Fk b)/\(∀q_,Fk q_->¬own a2 q_)/\(∀q_,Fk q_->¬own aj q_)/\(∀q_,Fk q_->q_<w.heap.size->F q_)/\(∀q_,Fk q_->7<=q_)/\(k<=(AM pl).length)) (λk=>(AM pl).length-k) 0 ?_ ?_
  ·rw[show Cs (BR room pl (Ew rs rs.length) ((AT pl)+1)).2 ((AM pl).take 0)=(BR room pl (Ew rs rs.length) ((AT pl)+1)).2 by rw[AaF,Jg]];refine⟨_,⟨rfl,rfl,rfl,rfl,trivial⟩,K0,hb,hL,a0,a1,ar,aI,b6,b7,au,aJ,?_⟩;omega
  clear hb a0 a1 ar;clear K0;rintro k bE bF ⟨Fk,aK,K0,hb,hL,a0,a1,ah,aL,aM,aN,av,aO,hk⟩ ih3;obtain⟨ρ₀,rfl⟩:=aK.ex;clear aK;refine kK ?_ ?_
  ·intro hc84;obtain⟨bG,bH,m,hm,bI,bJ⟩:=a0.sl.eo k;refine jG ?_;have hnm:=B1 m;have hmm:=Aan hm;have hmx:=UT hmm;have hml:=CF.1 hmm;have hhas:=La (pl:=(BR room pl (Ew rs rs.length) ((AT pl)+1)).2) (ns:=(AM pl).take k) (OI (room:=room) (b:=Ew rs rs.length) (n:=AT pl+1) hml.2.2 (Hm m) (λe_=>by have:=Fx hml.1 hml.2.1 Zo Zo e_;omega)) (λj hj=>by
    obtain⟨q,hq⟩:=Abm hj;rw[AbF]at hq;split at hq
    ·exact(Ry hok).ne hq hm Za
    cases hq)
   refine Ai.drawS [] [0,1,2,3,1004,5,2006,2007,8] ?_;intro bK a7;replace hb:=hb.ext a7;refine kF (jb hb Jn) ?_;replace hL:=hL.ext a7;refine jU rfl<|jC (CJ m _ hL) ?_;rintro _ bL ⟨rfl,a8⟩;replace hb:=hb.ext a8;refine jG ?_;replace ah:=(ah.ext a7).ext a8;refine jU rfl<|jC (Ef (Hk ah (Ao m) (by first|omega|decide)) (DZ (Da hml.1 hml.2.1) hhas) rfl) ?_;rintro _ bM ⟨ai,rfl,b8,a9,ak⟩;have b9:¬ai b:=a9.not aL hb.lt;replace a0:=(a0.ext a7).ext a8;have ba:∀q_,ai q_->¬own a2 q_:=a9.apart aM a0.oL;replace a1:=(a1.ext a7).ext a8;have bb:∀q_,ai q_->¬own aj q_:=a9.apart aN a1.oL;replace K0:=(K0.ext a7).ext a8;have bc:∀q_,ai q_->q_<w.heap.size->F q_:=a9.inS av K0.size;have be:∀q_,ai q_->7<=q_:=λq_ h_=>(a9 q_ h_).elim (aO q_) (λh2_=>Aaa hLs (Aaa K0.size h2_));replace K0:=K0.trans ak (λx hlt hx=>av x hx hlt);clear a9;replace hb:=hb.keep ak aL;refine kG ?_;refine kC k ?_;have e:=US (pl:=(BR room pl (Ew rs rs.length) ((AT pl)+1)).2) hm;refine ih3 (k+1) _ _ ?_ Zo;rw[e];replace hL:=(hL.ext a8).keep ak aO;replace a0:=a0.kO ak (Zf aM);replace a1:=a1.kO ak (Zf aN);refine⟨_,⟨rfl,rfl,rfl,rfl,trivial⟩,K0,hb,hL,a0,a1,b8,b9,ba,bb,bc,be,?_⟩
   omega
  intro hc84;refine kL func69 ?_;have hke:k=(AM pl).length:=by omega
  subst hke;rw[Aap]at ah;have hEq:Ba room pl (rs.map RB.b)=(0,Cs (BR room pl (Ew rs rs.length) ((AT pl)+1)).2 (AM pl)):=(Qm hm0 Zo (by rw[<-G5];exact hsw)).trans (by rw[G5]);rw[hEq];exact⟨_,rfl,Fk,rfl,ah,A1 av,K0⟩
 refine kK ?_ ?_
 ·intro hc73;skip;refine jG ?_;refine kS (Hk ar freshN (by first|omega|decide)) ?_;rintro _ bN ⟨aP,rfl,bg,aQ,aw⟩;have bh:∀q_,aP q_->q_<w.heap.size->F q_:=aQ.inS au K0.size;replace K0:=K0.trans aw (λx hlt hx=>au x hx hlt);clear aQ;refine kL func69 ?_;have hEq:Ba room pl (rs.map RB.b)=((BR room pl (Ew rs rs.length) ((AT pl)+1)).1,Br ((BR room pl (Ew rs rs.length) ((AT pl)+1)).2) freshN):=(Qn hm0 Zo (by rw[<-G5];exact hsw)).trans (by rw[G5]);rw[hEq];replace hb:=hb.keep aw aI;replace hL:=hL.keep aw aJ;exact⟨_,rfl,aP,rfl,bg,A1 bh,K0⟩
 intro hc73;exact absurd hc73 hsw
end Go.Proofs.YtjkaicjmfgekjaaGreatDoor
namespace Go.Proofs.YtjkaicjmfgekjaaGreatDoor
open Go.Proofs.Tryz
attribute [local irreducible] RD RS AB RL RA RT CB Ai crcN CV CP F6 Co leL C9 Ao AM Eg En E7 Fv DY At BW Ar
def Iu (i:Nat)(rs:List (List UInt8))(s:Nat):PF:=⟨Ao (i:Int),rs.flatMap Ar,s⟩
def Dq (rs:List (List UInt8)):Nat:=(rs.flatMap Ar).length
def doneL :Nat->List (List (List UInt8))->List PF
 |_,[]=>[]
 |i,rs::t=>Iu i rs (Dq rs)::doneL (i+1) t
def Iv (i:Nat)(c:List (List UInt8))(s:Nat):List PF:=if c=[]then[]else[Iu i c s]
def Dw (D:List (List (List UInt8)))(c:List (List UInt8))(s:Nat):List PF:=doneL 1 D++Iv (D.length+1) c s
def Cb (D:List (List (List UInt8)))(c:List (List UInt8)):Nat:=D.length+if c=[]then 0 else 1
def doneL_app : ∀ (D : List (List (List UInt8))) (i : Nat) (rs : List (List UInt8)), doneL i (D ++ [rs]) = doneL i D ++ [Iu (i + D.length) rs (Dq rs)]
  | [], i, rs => by simp [doneL]
  | x :: D, i, rs => by
    rw [AaW, doneL, doneL, doneL_app D (i + 1) rs, AaW, Aaj, show i + 1 + D.length = i + (D.length + 1) by omega]
def doneL_len :∀(D:List (List (List UInt8))) (i:Nat),(doneL i D).length=D.length
 |[],_=>rfl
 |x::D,i=>by rw[doneL,Aaj,doneL_len D,Aaj]
def doneL_mem : ∀ {D : List (List (List UInt8))} {i : Nat} {f : PF}, f ∈ doneL i D -> ∃ k rs, k < D.length /\ D[k]? = some rs /\ f = Iu (i + k) rs (Dq rs)
  | [], _, _, h => by cases h
  | x :: D, i, f, h => by
    rw [doneL] at h;rcases List.mem_cons.1 h with rfl | h
    · exact ⟨0, x, by simp, rfl, rfl⟩
    obtain ⟨k, rs, h1, h2, h3⟩ := doneL_mem h;exact ⟨k + 1, rs, by simp; omega, by simpa using h2, by rw [h3, show i + 1 + k = i + (k + 1) by omega]⟩
def doneL_get : ∀ {D : List (List (List UInt8))} {i k : Nat} {rs : List (List UInt8)}, D[k]? = some rs -> Iu (i + k) rs (Dq rs) ∈ doneL i D
  | [], _, _, _, h => by simp at h
  | x :: D, i, 0, rs, h => by
    simp at h; subst h;rw [doneL]; simp
  | x :: D, i, k + 1, rs, h => by
    rw [doneL];have := doneL_get (i := i + 1) (k := k) (by simpa using h);rw [show i + 1 + k = i + (k + 1) by omega] at this;exact Aau _ this
section
variable {D :List (List (List UInt8))}{c:List (List UInt8)}{s:Nat}
def Iw {f:PF}(h:f∈Dw D c s):∃k:Nat,1<=k/\k<=Cb D c/\f.name=Ao (k:Int):=by
 rw[Dw]at h;rcases List.mem_append.1 h with h|h
 ·obtain⟨k,rs,h1,h2,rfl⟩:=doneL_mem h;exact⟨1+k,by omega,by rw[Cb];omega,rfl⟩
 rw[Iv]at h;split at h
 ·cases h
 rename_i hc;simp only[Aah]at h;subst h;exact⟨D.length+1,by omega,by rw[Cb,if_neg hc];omega,rfl⟩
def OO {k:Nat}(h1:1<=k)(h2:k<=Cb D c):CN (Dw D c s) (Ao (k:Int))=true:=by
 by_cases hk:k<=D.length
 ·obtain⟨rs,hr⟩:∃rs,D[k-1]? =some rs:=⟨_,List.getElem?_eq_getElem Zo⟩
  have:=doneL_get (i:=1) hr
  rw[show 1+(k-1)=k by omega]at this;exact Bu.2 ⟨_,AaQ _ this,rfl⟩
 have hc:c≠ []:=λe=>by rw[Cb,if_pos e]at h2;omega
 rw[Cb,if_neg hc]at h2;have:k=D.length+1:=by omega
 subst this;exact Bu.2 ⟨Iu (D.length+1) c s,AaR _ (by rw[Iv,if_neg hc];simp),rfl⟩
def Ix {i j:Nat}(h1:1<=i)(h2:i<=999999999)(h3:1<=j)(h4:j<=999999999)(e:Ao (i:Int)=Ao (j:Int)):i=j:=by
 have:=Fx (n:=(i:Int)) (m:=(j:Int)) Zo Zo Zo Zo e
 omega
def done_nodup : ∀ (D : List (List (List UInt8))) (i : Nat), 1 <= i -> i + D.length <= 999999999 -> ((doneL i D).map (·.name)).Nodup
  | [], _, _, _ => by simp [doneL]
  | x :: D, i, h1, h2 => by
    rw [doneL, Aaf, AaN];simp only [Aaj] at h2;refine ⟨λh => ?_, done_nodup D (i + 1) Zo Zo⟩;obtain ⟨f, hf, e⟩ := List.mem_map.1 h;obtain ⟨k, rs, hk, _, rfl⟩ := doneL_mem hf;have := Ix Zo Zo h1 Zo (show Ao ((i + 1 + k : Nat) : Int) = Ao (i : Int) from e);omega
def Ld (h:Cb D c<=999999998):((Dw D c s).map (·.name)).Nodup:=by
 have hD:D.length<=Cb D c:=by rw[Cb];omega
 rw[Dw,Aam,Aa1];refine⟨done_nodup D 1 Zd Zo,?_,?_⟩
 ·rw[Iv];split<;>simp
 intro a ha b hb e;subst e;rw[Iv]at hb;split at hb
 ·simp at hb
 rename_i hc;rw[Cb,if_neg hc]at h;obtain⟨f,hf,rfl⟩:=List.mem_map.1 ha;obtain⟨k,rs,hk,_,rfl⟩:=doneL_mem hf;simp only[Aaf,Aav,Aah]at hb;have:=Ix Zo Zo Zo Zo (show Ao ((1+k:Nat):Int)=Ao ((D.length+1:Nat):Int)from hb)
 omega
def MC {l m:List Int}(h1:l.Pairwise (·<·))(h2:m.Pairwise (·<·))(h:∀x,x∈l↔x∈m):l=m:=
 sorted_unique ((Acq (h1.imp λ{a b} h e=>by omega) (h2.imp λ{a b} h e=>by omega)).2 h) (h1.imp λh=>by omega) (h2.imp λh=>by omega)
def gC (n:Nat):List Int:=(List.range n).map λk=>((k+1:Nat):Int)
def UU (n:Nat):(gC n).Pairwise (·<·):=by
 rw[gC,AbZ];exact List.pairwise_lt_range.imp λh=>by omega
def NC {n:Nat}{x:Int}:x∈gC n↔1<=x/\x<=n:=by
 rw[gC,Aae];constructor
 ·rintro⟨k,hk,rfl⟩;have:=List.mem_range.1 hk
  omega
 rintro⟨h1,h2⟩;exact⟨x.toNat-1,List.mem_range.2 Zo,by omega⟩
def Le (h:Cb D c<=999999998):AM (Dw D c s)=gC (Cb D c):=by
 refine MC (HX (Ld h)) (UU _) λx=> ?_;rw[CF,NC];constructor
 ·rintro⟨h1,h2,h3⟩;obtain⟨f,hf,e⟩:=Bu.1 h3;obtain⟨k,k1,k2,e2⟩:=Iw hf;have:=Fx (n:=(k:Int)) (m:=x) Zo Zo h1 h2 (e2.symm.trans e)
  omega
 rintro⟨h1,h2⟩;refine⟨h1,by omega,?_⟩;have:=OO (D:=D) (c:=c) (s:=s) (k:=x.toNat) Zo Zo
 rwa[show((x.toNat:Nat):Int)=x by omega]at this
def Lf (h:Cb D c<=999999998):AT (Dw D c s)=((Cb D c:Nat):Int):=by
 rw[AT,Le h,gC];rcases Nat.eq_zero_or_pos (Cb D c)with h0|h0
 ·rw[h0];rfl
 obtain⟨n,hn⟩:∃n,Cb D c=n+1:=⟨Cb D c-1,by omega⟩
 rw[hn,List.range_succ,Aam];simp
def UV (h:Cb D c<=999999998)(hc:c≠ []):CD (Dw D c s) (Ao ((D.length+1:Nat):Int))=some (Iu (D.length+1) c s):=
 F3 (Ld h) (f:=Iu (D.length+1) c s) (AaR _ (by rw[Iv,if_neg hc];simp))
def OP (a b:List PF)(n:ByteArray)(u:PF->PF):DW (a++b) n u=DW a n u++DW b n u:=by rw[DW,Aam];rfl
def OQ {pl:List PF}{n:ByteArray}{u:PF->PF}(h:∀f∈pl,f.name≠n):DW pl n u=pl:=by
 rw[DW];refine(AaE λf hf=>if_neg (h f hf)).trans (List.map_id _)
def Xe (h:Cb D c<=999999998)(hc:c≠ []):∀f∈doneL 1 D,f.name≠Ao ((D.length+1:Nat):Int):=by
 intro f hf e;rw[Cb,if_neg hc]at h;obtain⟨k,rs,hk,_,rfl⟩:=doneL_mem hf;have:=Ix Zo Zo Zo Zo (show Ao ((1+k:Nat):Int)=Ao ((D.length+1:Nat):Int)from e)
 omega
def RE (h:Cb D c<=999999998)(hc:c≠ [])(u:PF->PF):DW (Dw D c s) (Ao ((D.length+1:Nat):Int)) u=doneL 1 D++[u (Iu (D.length+1) c s)]:=by
 rw[Dw,OP,OQ (Xe h hc),Iv,if_neg hc];simp[DW,Iu]
def OR (h:Cb D c<=999999998)(hc:c≠ []):Cq (Dw D c s) (Ao ((D.length+1:Nat):Int))=Dw D c (Dq c):=by
 rw[Cq,RE h hc,Dw,Iv,if_neg hc];rfl
def Lg (D:List (List (List UInt8)))(c:List (List UInt8)):Nat:=Dq (D.flatten++c)
def OS (a b:List (List UInt8)):Dq (a++b)=Dq a+Dq b:=by rw[Dq,Dq,Dq,Abq,Aab]
def used_done : ∀ (D : List (List (List UInt8))) (i : Nat), A4 (doneL i D) = Dq D.flatten
  | [], _ => rfl
  | x :: D, i => by
    have := used_done D (i + 1);rw [A4] at this;rw [doneL, A4, Aaf, Abe, this, AbL, OS]; rfl
def used_log :A4 (Dw D c s)=Lg D c:=by
 have h1:=used_done D 1;rw[A4]at h1;rw[Dw,A4,Aam,List.sum_append_nat,h1,Lg,OS,Iv];split
 ·rename_i hc;subst hc;rfl
 simp[Iu,Dq]
def logL_len :(Dw D c s).length=Cb D c:=by
 rw[Dw,Aab,doneL_len,Cb,Iv];split<;>rfl
def UW (h:Cb D c<=999999998){k:Nat}(hk:Cb D c<k)(hk2:k<=999999999):CN (Dw D c s) (Ao (k:Int))=false:=by
 rw[AbY];intro hh;obtain⟨f,hf,e⟩:=Bu.1 hh;obtain⟨j,j1,j2,e2⟩:=Iw hf;have:=Ix Zo Zo Zo Zo (e2.symm.trans e)
 omega
def no_fresh :CN (Dw D c s) freshN=false:=by
 rw[AbY];intro hh;obtain⟨f,hf,e⟩:=Bu.1 hh;obtain⟨j,j1,j2,e2⟩:=Iw hf;exact Hm _ (e2.symm.trans e)
def Hn {room:Int}{pl:List PF}{n:ByteArray}{b:List UInt8}(hm:CW n=true)(hl:CN pl n=true\/pl.length<64)(hr:(b.length:Int)<=room-(A4 pl:Int)):Df room pl n b=0:=by
 rw[Df,if_pos hm,if_neg];rintro(⟨h1,h2⟩|h)
 ·rcases hl with h3|h3
  ·rw[h3]at h1;cases h1
  omega
 omega
def OT (D:List (List (List UInt8)))(c:List (List UInt8))(s:Nat)(b:List UInt8):List (List (List UInt8))×List (List UInt8)×Nat:=
 if c=[]then(D,[b],0)else if 4096<=Dq c then(D++[c],[b],0)else(D,c++[b],s)
def Qo {room:Int}{b:List UInt8}(h0:0<b.length)(h1:b.length<=65536)(hcnt:Cb D c<=60)(hD:c=[]->D=[])(hr:((Ar b).length:Int)<=room-(Lg D c:Int)):
  Aw room (Dw D c s) b=(0,Dw (OT D c s b).1 (OT D c s b).2.1 (OT D c s b).2.2):=by
 have hm:=MA h0 h1;have hlast:=Lf (s:=s) (D:=D) (c:=c) Zo;rw[Aw,if_neg (by rw[hm];decide),hlast,OT];by_cases hc:c=[]
 ·have hD0:=hD hc;subst hc;subst hD0;have e0:Dw [] [] s=[]:=rfl;have en:Ao (max ((0:Nat):Int) 1)=Ao 1:=rfl;have hE:Df room [] (Ao 1) (Ar b)=0:=Hn name1_may (.inr Zd) (by rw[show Lg [] []=0 from rfl]at hr;simpa[A4]using hr);rw[e0];have e1:Cb [] []=0:=rfl;rw[if_neg (by rw[e1];omega),if_pos rfl,e1,if_neg Zd,en,hE,Do,hE,if_pos rfl];simp[CN,Dw,doneL,Iv,Iu]
 have hcn:Cb D c=D.length+1:=by rw[Cb,if_neg hc]
 have hsz:Iq (Dw D c s) (Ao ((Cb D c:Nat):Int))=Dq c:=by rw[hcn,Iq,UV Zo hc];rfl
 rw[if_neg hc,hsz];by_cases hb:4096<=Dq c
 ·rw[if_pos ⟨by omega,hb⟩,if_pos hb,if_neg Zo,show max (((Cb D c:Nat):Int)+1) 1=((Cb D c+1:Nat):Int)by omega,hcn,OR Zo hc];have hno:CN (Dw D c (Dq c)) (Ao ((D.length+1+1:Nat):Int))=false:=UW Zo Zo Zo;have hE:Df room (Dw D c (Dq c)) (Ao ((D.length+1+1:Nat):Int)) (Ar b)=0:=Hn (Da Zo Zo) (.inr (by rw[logL_len];omega)) (by rw[used_log];exact hr);rw[hE,Do,hE,if_pos rfl,hno,if_neg Zd];congr 1;rw[Dw,Dw,Iv,if_neg hc,doneL_app,Iv,if_neg Zs,Nat.add_comm 1 D.length];simp[Iu,Dq]
 rw[if_neg Zo,if_neg hb,if_neg Zo,show max ((Cb D c:Nat):Int) 1=((Cb D c:Nat):Int)by omega,hcn];have hhas:CN (Dw D c s) (Ao ((D.length+1:Nat):Int))=true:=OO Zo Zo;have hE:Df room (Dw D c s) (Ao ((D.length+1:Nat):Int)) (Ar b)=0:=Hn (Da Zo Zo) (.inl hhas) (by rw[used_log];exact hr);rw[hE,Do,hE,if_pos rfl,hhas,if_pos rfl,RE Zo hc,Dw,Iv,if_neg Zs];simp[Iu,Abq]
def UX {room:Int}{pl:List PF}{b:List UInt8}{n:Int}(h1:1<=n)(h2:n<=999999999)(hf:CN pl freshN=false)(hl:pl.length<64)(hr:(b.length:Int)<=room-(A4 pl:Int)):
  BR room pl b n=(0,Br pl (Ao n)++[⟨Ao n,b,b.length⟩]):=by
 have hE:Df room pl freshN b=0:=Hn fresh_may (.inr hl) hr;have hA:Do room pl freshN b=pl++[⟨freshN,b,0⟩]:=by rw[Do,hE,if_pos rfl,hf,if_neg Zd]
 have hno:∀f∈pl,f.name≠freshN:=λf hf2 e=>by rw[Bu.2 ⟨f,hf2,e⟩]at hf;cases hf
 have hS:Cq (pl++[⟨freshN,b,0⟩]) freshN=pl++[⟨freshN,b,b.length⟩]:=by rw[Cq,OP,OQ hno];simp[DW]
 have hh:∀s,CN (pl++[⟨freshN,b,s⟩]) freshN=true:=λs=>Bu.2 ⟨_,AaR _ (List.mem_singleton.2 rfl),rfl⟩
 have hlk:CD (pl++[⟨freshN,b,b.length⟩]) freshN=some ⟨freshN,b,b.length⟩:=by
  rw[CD,List.find?_append];have:pl.find? (λf=>decide (f.name=freshN))=none:=List.find?_eq_none.2 λf hf2=>by simpa using hno f hf2
  rw[this];simp
 have hR:E9 (pl++[⟨freshN,b,b.length⟩]) freshN (Ao n)=0:=by rw[E9,if_pos fresh_may,if_pos (Da h1 h2),hh,if_pos rfl]
 rw[BR,if_pos hE,hA,if_pos (DZ fresh_may (hh 0)),hS,hR,HD,hR,if_pos rfl,hlk];congr 1;have hr1:Br (pl++[⟨freshN,b,b.length⟩]) freshN=pl:=by
  rw[Br,Abz];have:pl.filter (λf=>decide (f.name≠freshN))=pl:=by rw[AaU];intro f hf2;simpa using hno f hf2
  rw[this];simp
 simp only;rw[hr1]
def UY {pl:List PF}{ns:List Int}(h:∀f∈pl,∃m∈ns,f.name=Ao m):Cs pl ns=[]:=by
 rw[Cs,List.filter_eq_nil_iff];intro f hf;obtain⟨m,hm,e⟩:=h f hf;simp only[AaH,Bool.not_eq_false,Abj,decide_eq_true_eq];exact⟨m,hm,e⟩
def OU {room:Int}{bs:List (List UInt8)}(hb:∀b∈bs,BW b=0)(hcnt:Cb D c<=60)(hr:((Ar []++bs.flatMap Ar).length:Int)<=room-(Lg D c:Int)):
  Ba room (Dw D c s) bs=(0,[⟨Ao ((Cb D c+1:Nat):Int),Ar []++bs.flatMap Ar,(Ar []++bs.flatMap Ar).length⟩]):=by
 have hlast:=Lf (s:=s) (D:=D) (c:=c) Zo;have hm:mayL bs=0:=by
  have:=mayL_ok (rs:=bs.map λb=>(⟨none,0,b⟩:RB)) (λq hq=>by obtain⟨b,hb2,rfl⟩:=List.mem_map.1 hq;exact hb b hb2)
  rw[Aat,show(RB.b∘λb=>(⟨none,0,b⟩:RB))=id from rfl,List.map_id]at this;exact this
 have e1:AT (Dw D c s)+1=((Cb D c+1:Nat):Int):=by rw[hlast];omega
 have hs:=UX (room:=room) (pl:=Dw D c s) (b:=Ar []++bs.flatMap Ar) (n:=((Cb D c+1:Nat):Int)) Zo Zo no_fresh (by rw[logL_len];omega) (by rw[used_log];exact hr);have hno:=UW (s:=s) (D:=D) (c:=c) (k:=Cb D c+1) Zo Zo Zo;rw[Ba,if_neg (by simpa using hm),if_neg (by rw[e1];omega),e1,hs,if_pos rfl,Qh hno];congr 1;rw[Cs,Abz];have h0:=UY (pl:=Dw D c s) (ns:=AM (Dw D c s)) λf hf=>by
  obtain⟨k,k1,k2,e⟩:=Iw hf;exact⟨(k:Int),by rw[Le Zo,NC];omega,e⟩
 rw[Cs]at h0;rw[h0,Aay,AaU];intro f hf;simp only[Aah]at hf;subst hf;simp only[AaH,List.any_eq_false,decide_eq_true_eq];intro m hm2 e;rw[Le Zo,NC]at hm2;have:=Fx (n:=((Cb D c+1:Nat):Int)) (m:=m) Zo Zo Zo Zo e
 omega
end
def Gb (i n:Nat):List Int:=(List.range' i n).map λk=>((k:Nat):Int)
def SZ (i n:Nat):Gb i (n+1)=(i:Int)::Gb (i+1) n:=by rw[Gb,List.range'_succ];rfl
def OV (i n:Nat):(Gb i n).length=n:=by rw[Gb,Aad,List.length_range']
def G6 {i n:Nat}{x:Int}:x∈Gb i n↔(i:Int)<=x/\x<((i+n:Nat):Int):=by
 rw[Gb,Aae];constructor
 ·rintro⟨k,hk,rfl⟩;rw[List.mem_range'_1]at hk;omega
 rintro⟨h1,h2⟩;exact⟨x.toNat,by rw[List.mem_range'_1];omega,by omega⟩
def MD (i n:Nat):(Gb i n).Pairwise (·<·):=by
 rw[Gb,AbZ];exact(List.pairwise_lt_range' ..).imp λh=>by omega
def GO (i n:Nat)(pl:List PF):Prop:=pl.map (·.name)=(Gb i n).map Ao
def RF {pl:List PF}{s:ByteArray}:CN pl s=true↔s∈pl.map (·.name):=by
 rw[Bu,Aae]
section
variable {i n:Nat}{pl:List PF}
def GO.nodup (h:GO i n pl)(h1:1<=i)(h2:i+n<=999999999):(pl.map (·.name)).Nodup:=by
 rw[h,List.Nodup,AbZ];refine(MD i n).imp_of_mem λ{a b} ha hb hlt e=> ?_;rw[G6]at ha hb;have:=Fx (n:=a) (m:=b) Zo Zo Zo Zo e
 omega
def GO.segs (h:GO i n pl)(h1:1<=i)(h2:i+n<=999999999):AM pl=Gb i n:=by
 refine MC (HX (h.nodup h1 h2)) (MD _ _) λx=> ?_;rw[CF,RF,h,Aae];constructor
 ·rintro⟨x1,x2,y,hy,e⟩;have hy2:=hy;rw[G6]at hy2;have:=Fx (n:=y) (m:=x) Zo Zo x1 x2 e
  exact this▸hy
 intro hx;have hx2:=hx;rw[G6]at hx2;exact⟨by omega,by omega,x,hx,rfl⟩
def GO.fresh (h:GO i n pl):CN pl freshN=false:=by
 rw[AbY];intro hh;rw[RF,h,Aae]at hh;obtain⟨y,_,e⟩:=hh;exact Hm _ e
def FL (pl:List PF)(ns:List Int):(CQ pl ns).map (·.name)=pl.map (·.name):=by
 rw[CQ,Aat];refine AaE λf _=> ?_;simp only[Function.comp];split<;>rfl
def JL (pl:List PF)(ns:List Int):(CQ pl ns).map (·.bytes)=pl.map (·.bytes):=by
 rw[CQ,Aat];refine AaE λf _=> ?_;simp only[Function.comp];split<;>rfl
def read_of : ∀ {a b : List PF}, a.map (·.name) = b.map (·.name) -> a.map (·.bytes) = b.map (·.bytes) -> ∀ s, A9 a s = A9 b s
  | [], [], _, _, s => rfl
  | [], _ :: _, h, _, _ => by cases h
  | _ :: _, [], h, _, _ => by cases h
  | f :: a, g :: b, h1, h2, s => by
    simp only [Aaf, List.cons.injEq] at h1 h2;have ih := read_of h1.2 h2.2 s;rw [A9, A9, CD, CD] at ih ⊢;rw [Abo, Abo, h1.1];split
    · simp [h2.1]
    exact ih
def OW (hn:(pl.map (·.name)).Nodup){f:PF}(hf:f∈pl):A9 pl f.name=f.bytes:=by rw[A9,F3 hn hf];rfl
def Whole (pl:List PF):List Int->List (List (List UInt8))->Prop
 |[],[]=>True
 |n::r,rs::t=>A9 pl (Ao n)=rs.flatMap Ar/\(∀p∈rs,p.length<=65536)/\Whole pl r t
 |_,_=>False
def Whole.same {pl':List PF}(e:∀s,A9 pl' s=A9 pl s):∀{ns:List Int} {R:List (List (List UInt8))},Whole pl ns R->Whole pl' ns R
 |[],[],_=>trivial
 |n::r,rs::t,h=>⟨(e _).trans h.1,h.2.1,Whole.same e h.2.2⟩
 |[],_::_,h=>h.elim
 |_::_,[],h=>h.elim
def Whole.app :∀{ns ms:List Int} {R T:List (List (List UInt8))},Whole pl ns R->Whole pl ms T->Whole pl (ns++ms) (R++T)
 |[],_,[],_,_,h2=>h2
 |n::r,_,rs::t,_,h,h2=>⟨h.1,h.2.1,Whole.app h.2.2 h2⟩
 |[],_,_::_,_,h,_=>h.elim
 |_::_,_,[],_,h,_=>h.elim
def JM {room : Int} : ∀ {ns : List Int} {R : List (List (List UInt8))}, Whole pl ns R -> ∀ (more : List Int) (acc : List (List UInt8)), Eh room pl (ns ++ more) acc = Eh room pl more (R.flatten.foldl F8 acc)
  | [], [], _, more, acc => rfl
  | n :: r, rs :: t, h, more, acc => by
    obtain ⟨h1, h2, h3⟩ := h;have hf := Qk rs h2;rw [AaW, Eh, if_pos (by rw [h1, hf]), h1, hf, JM h3, AbL, Abg]
  | [], _ :: _, h, _, _ => h.elim
  | _ :: _, [], h, _, _ => h.elim
def OX (hn : (pl.map (·.name)).Nodup) : ∀ {l : List PF} {i : Nat} {R : List (List (List UInt8))}, (∀ f ∈ l, f ∈ pl) -> l.map (·.name) = (Gb i l.length).map Ao -> l.map (·.bytes) = R.map (λrs => rs.flatMap Ar) -> (∀ rs ∈ R, ∀ p ∈ rs, p.length <= 65536) -> Whole pl (Gb i l.length) R
  | [], i, [], _, _, _, _ => trivial
  | [], i, _ :: _, _, _, h, _ => by cases h
  | _ :: _, i, [], _, _, h, _ => by cases h
  | f :: l, i, rs :: R, hs, h1, h2, h3 => by
    rw [Aaj, SZ] at h1 ⊢;simp only [Aaf, List.cons.injEq] at h1 h2;refine ⟨?_, h3 rs Zs, OX hn (λg hg => hs g (by simp [hg])) h1.2 h2.2 λr hr => h3 r (by simp [hr])⟩;rw [<- h1.1, OW hn (hs f Zs), h2.1]
def Lh {room:Int}{R:List (List (List UInt8))}(hN:GO i n pl)(h1:1<=i)(h2:i+n<=999999999)(hW:Whole pl (Gb i n) R):A7 room pl=(0,R.flatten.foldl F8 [],CQ pl (Gb i n)):=by
 have e:At room pl=(0,R.flatten.foldl F8 [],pl):=by
  have:=JM (room:=room) hW [] []
  rw[Aax]at this;unfold At;rw[hN.segs h1 h2,this,Eh]
 rw[A7,Qh hN.fresh,e,if_pos rfl,hN.segs h1 h2]
end
def Iy (syn:Nat)(rs:List (List UInt8))(pl:List PF):Prop:=
 ∃(D:List (List (List UInt8))) (c:List (List UInt8)) (m:Nat),pl=Dw D c (Dq (c.take m))/\D.flatten++c=rs/\(c=[]->D=[])/\Cb D c<=rs.length/\m<=c.length/\syn<=D.flatten.length+m
def logAt_nil :Iy 0 [] []:=⟨[],[],0,rfl,rfl,λ_=>rfl,Aac _,Aac _,Aac _⟩
def lenF_le : ∀ {rs : List (List UInt8)}, (∀ p ∈ rs, p.length <= 9100) -> Dq rs <= 9113 * rs.length
  | [], _ => Aac _
  | p :: rs, h => by
    have h1 := h p Zs;have h2 := lenF_le λq hq => h q (Aau p hq)
    have h3 := CI p Zo;rw [Dq] at h2 ⊢;rw [Aa5, Aab, Aaj];omega
section
variable {syn :Nat}{rs:List (List UInt8)}{pl:List PF}
def Iy.append (h:Iy syn rs pl){b:List UInt8}(h0:0<b.length)(h1:b.length<=9100)(hr:rs.length<=50)(hrs:∀p∈rs,p.length<=9100):(Aw 4194304 pl b).1=0/\Iy syn (rs++[b]) (Aw 4194304 pl b).2:=by
 obtain⟨D,c,m,rfl,rfl,hD,hcnt,hm,hsyn⟩:=h;have hf:=CI b Zo;have hu:Lg D c<=9113*(D.flatten++c).length:=lenF_le hrs;have:=Qo (room:=4194304) (s:=Dq (c.take m)) (b:=b) (D:=D) (c:=c) h0 Zo Zo hD Zo
 rw[this];refine⟨rfl,?_⟩;rw[OT];by_cases c0:c=[]
 ·have d0:=hD c0;subst c0;subst d0;rw[if_pos rfl];refine⟨[],[b],0,rfl,rfl,(λh=>by cases h),Aac _,by simp,?_⟩;simp at hm hsyn;omega
 rw[if_neg c0];split
 ·refine⟨D++[c],[b],0,rfl,by simp,(λh=>by cases h),?_,by simp,?_⟩
  ·rw[Cb,if_neg c0]at hcnt;rw[Cb,if_neg Zs];simp at hcnt⊢;omega
  rw[List.flatten_append,Aab];simp only[AbL,List.flatten_nil,Aax];omega
 refine⟨D,c++[b],m,?_,by simp,(λh=>by simp at h),?_,by simp;omega,hsyn⟩
 ·rw[AbV hm]
 rw[Cb,if_neg c0]at hcnt;rw[Cb,if_neg Zs];simp at hcnt⊢;omega
def Iy.sync (h:Iy syn rs pl)(hr:rs.length<=50):Iy rs.length rs (GN pl):=by
 obtain⟨D,c,m,rfl,rfl,hD,hcnt,hm,hsyn⟩:=h;have hl:=Lf (s:=Dq (c.take m)) (D:=D) (c:=c) Zo;rw[GN,hl];by_cases c0:c=[]
 ·have d0:=hD c0;subst c0;subst d0;have e0:((Cb [] []:Nat):Int)=0:=rfl;rw[if_pos e0];exact⟨[],[],0,rfl,rfl,λ_=>rfl,Aac _,Aac _,Aac _⟩
 have e:Cb D c=D.length+1:=by rw[Cb,if_neg c0]
 rw[e,if_neg Zo,OR Zo c0];exact⟨D,c,c.length,by rw[Aap],rfl,hD,hcnt,Aac _,by simp⟩
def Ho (pl:List PF)(recs:List (List UInt8)):Prop:=∃n R,GO 1 n pl/\n<=60/\Whole pl (Gb 1 n) R/\R.flatten=recs
def Ho.open {recs:List (List UInt8)}(h:Ho pl recs)(hne:∀p∈recs,p≠ []){room:Int}:(A7 room pl).1=0/\(A7 room pl).2.1=recs/\(∀s,A9 (A7 room pl).2.2 s=A9 pl s)/\(A7 room pl).2.2.map (·.name)=pl.map (·.name):=by
 obtain⟨n,R,h1,h2,h3,rfl⟩:=h;rw[Lh h1 Zd Zo h3,steps_all _ _ hne];exact⟨rfl,by simp,λs=>read_of (FL _ _) (JL _ _) s,FL _ _⟩
end
end Go.Proofs.YtjkaicjmfgekjaaGreatDoor
namespace Go.Proofs.YtjkaicjmfgekjaaGreatDoor
open Go.Proofs.Tryz
attribute [local irreducible] RD RS AB RL RA RT CB Ai crcN CV CP F6 Co leL C9 Ao AM Eg En E7 Fv DY At BW Ar A7 Aw
abbrev muLink :Go.Conc.Locks.MuLink:={lock:=77,unlock:=33,ilock:=131,iunlock:=78,lockSlow:=192,unlockSlow:=135,disable:=133,enable:=136,acquire:=191,relMerge:=132,cas32:=190,add32:=134,tMutex:=88,tIMutex:=86,tPMutex:=151,tPIMutex:=204,tPI32:=208,tUP:=206,tNoCopy:=83,tU32:=84}
def muLib :Go.Conc.Locks.MuLib prog muLink:=
 ⟨func77,func33,func131,func78,func133,func136,func191,func132,func190,func134,underlying86,Tryz.runUnderlying86,Tryz.sizeOf86,Tryz.isAgg86,Tryz.zeroValue86,underlying88,Tryz.runUnderlying88,Tryz.sizeOf88,Tryz.isAgg88,Tryz.zeroValue88,underlying151,Tryz.runUnderlying151,Tryz.sizeOf151,Tryz.isAgg151,Tryz.zeroValue151,underlying204,Tryz.runUnderlying204,Tryz.sizeOf204,Tryz.isAgg204,Tryz.zeroValue204,underlying208,Tryz.runUnderlying208,Tryz.sizeOf208,Tryz.isAgg208,Tryz.zeroValue208,underlying206,Tryz.runUnderlying206,Tryz.sizeOf206,Tryz.isAgg206,Tryz.zeroValue206,underlying83,Tryz.runUnderlying83,Tryz.sizeOf83,Tryz.isAgg83,Tryz.zeroValue83,underlying21,Tryz.runUnderlying21,Tryz.sizeOf21,Tryz.isAgg21,Tryz.zeroValue21,Zk⟩
end Go.Proofs.YtjkaicjmfgekjaaGreatDoor
namespace Go.Proofs.YtjkaicjmfgekjaaGreatDoor
open Go.Proofs.Tryz
attribute [local irreducible] RD RS AB RL RA RT CB Ai crcN CV CP F6 Co leL C9 Ao AM Eg En E7 Fv DY At BW Ar A7 Aw X
def BA (b lg m1 m2 m3:Nat)(s:Int)(w:World)(hb:AC w b [.int .i32 0,.int .u32 0,jp lg,.int .i64 s,.map (some m1),.map (some m2),.map (some m3)] 94):
  Calls prog 32 #[jp b] w (AU (λv w'=>v= .bool true/\AC w' b [.int .i32 1,.int .u32 0,jp lg,.int .i64 s,.map (some m1),.map (some m2),.map (some m3)] 94/\Ae (one b) w w')):=by
 refine kD (n:=18) func32 ?_;refine kE (DK (DB underlying24 rfl rfl) rfl) ?_;refine kH ?_;refine kS (gZ muLib hb) ?_;rintro _ a1 ⟨rfl,a0,a2⟩;have K0:=(Ae.refl (one b) w).tf a2 rfl;replace hb:AC a1 b [.int .i32 1,.int .u32 0,jp lg,.int .i64 s,.map (some m1),.map (some m2),.map (some m3)] 94:=a0;clear a0;refine jG ?_;refine kE (DK (DB underlying89 rfl rfl) rfl) ?_;refine kH ?_;refine jJ func32 ?_;exact⟨_,rfl,rfl,hb,K0⟩
end Go.Proofs.YtjkaicjmfgekjaaGreatDoor
