/-
  Ya, Yb, Yc, Yd, Ye, Yf, Yg, Yh, Yi, Ka, Kb
-/
import Derived.Shelf.Strconv.Itoa3
import Derived.Shelf.Strconv.AtoiAll
import Derived.Lib.SmallJoins
import Derived.Sort.OwnSortedInts
import Derived.Test.YtjkaicjmfgekjaaGreatDoorPkDk
import Derived.Test.YtjkaicjmfgekjaaGreatDoorPkXa
import Derived.Test.YtjkaicjmfgekjaaGreatDoorPkDefer
set_option linter.all false
set_option maxRecDepth 100000
set_option maxHeartbeats 4000000
namespace Go.Proofs.YtjkaicjmfgekjaaGreatDoor
open Go.Proofs.Tryz
attribute [local irreducible] RD RS AA RL RA RT Cz Ai crcN CH Cx F8 B1 leL CM
section
open Go.Shelf
def itoaL_ren :Go.Shelf.Ren:=⟨fun|171=>155|243=>215|246=>260|283=>304|284=>305|285=>306|286=>307|129=>255|317=>339|318=>340|319=>341|320=>342|337=>354|338=>355|n=>n,fun|3=>3|9=>9|2=>2|4=>4|171=>341|0=>0|53=>74|37=>98|5=>5|173=>343|212=>372|51=>84|20=>20|213=>373|46=>106|232=>387|233=>388|n=>n,fun|17=>4|18=>5|19=>6|n=>n⟩
theorem itoaL :Go.Proofs.LaysM.n171 prog itoaL_ren:={
 mixed:=by kernel_rfl
 f129:=func255.trans (congrArg some Zk)
 f171:=func155.trans (congrArg some Zk)
 f243:=func215.trans (congrArg some Zk)
 f246:=func260.trans (congrArg some Zk)
 f283:=func304.trans (congrArg some Zk)
 f284:=func305.trans (congrArg some Zk)
 f285:=func306.trans (congrArg some Zk)
 f286:=func307.trans (congrArg some Zk)
 f317:=func339.trans (congrArg some Zk)
 f318:=func340.trans (congrArg some Zk)
 f319:=func341.trans (congrArg some Zk)
 f320:=func342.trans (congrArg some Zk)
 f337:=func354.trans (congrArg some Zk)
 f338:=func355.trans (congrArg some Zk)
 t0:=underlying0
 a0:=Tryz.isAgg0
 z0:=Tryz.sizeOf0
 v0:=Tryz.zeroValue0
 t2:=underlying2
 a2:=Tryz.isAgg2
 z2:=Tryz.sizeOf2
 v2:=Tryz.zeroValue2
 t3:=underlying3
 a3:=Tryz.isAgg3
 z3:=Tryz.sizeOf3
 v3:=Tryz.zeroValue3
 t4:=underlying4
 a4:=Tryz.isAgg4
 z4:=Tryz.sizeOf4
 v4:=Tryz.zeroValue4
 t5:=underlying5
 a5:=Tryz.isAgg5
 z5:=Tryz.sizeOf5
 v5:=Tryz.zeroValue5
 t9:=underlying9
 a9:=Tryz.isAgg9
 z9:=Tryz.sizeOf9
 v9:=Tryz.zeroValue9
 t20:=underlying20
 a20:=Tryz.isAgg20
 z20:=Tryz.sizeOf20
 v20:=Tryz.zeroValue20
 t37:=underlying98
 a37:=Tryz.isAgg98
 z37:=Tryz.sizeOf98
 v37:=Tryz.zeroValue98
 t46:=underlying106
 a46:=Tryz.isAgg106
 z46:=Tryz.sizeOf106
 v46:=Tryz.zeroValue106
 t51:=underlying84
 a51:=Tryz.isAgg84
 z51:=Tryz.sizeOf84
 v51:=Tryz.zeroValue84
 t53:=underlying74
 a53:=Tryz.isAgg74
 z53:=Tryz.sizeOf74
 v53:=Tryz.zeroValue74
 t171:=underlying341
 a171:=Tryz.isAgg341
 z171:=Tryz.sizeOf341
 v171:=Tryz.zeroValue341
 t173:=underlying343
 a173:=Tryz.isAgg343
 z173:=Tryz.sizeOf343
 v173:=Tryz.zeroValue343
 t212:=underlying372
 a212:=Tryz.isAgg372
 z212:=Tryz.sizeOf372
 v212:=Tryz.zeroValue372
 t213:=underlying373
 a213:=Tryz.isAgg373
 z213:=Tryz.sizeOf373
 t232:=underlying387
 a232:=Tryz.isAgg387
 z232:=Tryz.sizeOf387
 v232:=Tryz.zeroValue387
 t233:=underlying388
 a233:=Tryz.isAgg388
 z233:=Tryz.sizeOf388
 v233:=Tryz.zeroValue388
 g17:=by kernel_rfl
 g18:=by kernel_rfl
 g19:=by kernel_rfl
 i0:=by kernel_rfl
 i2:=by kernel_rfl
 i3:=by kernel_rfl
 i4:=by kernel_rfl
 i5:=by kernel_rfl
 i9:=by kernel_rfl
 i20:=by kernel_rfl
 i37:=by kernel_rfl
 i46:=by kernel_rfl
 i51:=by kernel_rfl
 i53:=by kernel_rfl
 i171:=by kernel_rfl
 i173:=by kernel_rfl
 i212:=by kernel_rfl
 i232:=by kernel_rfl
 i233:=by kernel_rfl
 m17:=by kernel_rfl
 m18:=by kernel_rfl
 m19:=by kernel_rfl}
def atoiL_ren :Go.Shelf.Ren:=⟨fun|172=>213|244=>257|245=>258|247=>290|279=>291|280=>292|281=>293|282=>294|287=>332|316=>333|171=>155|205=>334|321=>351|322=>352|243=>215|246=>260|283=>304|284=>305|285=>306|286=>307|129=>255|317=>339|318=>340|319=>341|320=>342|337=>354|338=>355|n=>n,fun|9=>9|3=>3|75=>272|76=>273|4=>4|5=>5|167=>330|37=>98|0=>0|85=>331|2=>2|168=>333|53=>74|175=>363|46=>106|210=>367|127=>380|145=>383|143=>381|21=>21|171=>341|173=>343|212=>372|51=>84|20=>20|213=>373|232=>387|233=>388|80=>389|n=>n,fun|15=>2|16=>3|17=>4|18=>5|19=>6|n=>n⟩
theorem atoiL :Go.Proofs.LaysC.n172 prog atoiL_ren:={
 mixed:=by kernel_rfl
 f129:=func255.trans (congrArg some Zk)
 f171:=func155.trans (congrArg some Zk)
 f172:=func213.trans (congrArg some Zk)
 f205:=func334.trans (congrArg some Zk)
 f243:=func215.trans (congrArg some Zk)
 f244:=func257.trans (congrArg some Zk)
 f245:=func258.trans (congrArg some Zk)
 f246:=func260.trans (congrArg some Zk)
 f247:=func290.trans (congrArg some Zk)
 f279:=func291.trans (congrArg some Zk)
 f280:=func292.trans (congrArg some Zk)
 f281:=func293.trans (congrArg some Zk)
 f282:=func294.trans (congrArg some Zk)
 f283:=func304.trans (congrArg some Zk)
 f284:=func305.trans (congrArg some Zk)
 f285:=func306.trans (congrArg some Zk)
 f286:=func307.trans (congrArg some Zk)
 f287:=func332.trans (congrArg some Zk)
 f316:=func333.trans (congrArg some Zk)
 f317:=func339.trans (congrArg some Zk)
 f318:=func340.trans (congrArg some Zk)
 f319:=func341.trans (congrArg some Zk)
 f320:=func342.trans (congrArg some Zk)
 f321:=func351.trans (congrArg some Zk)
 f322:=func352.trans (congrArg some Zk)
 f337:=func354.trans (congrArg some Zk)
 f338:=func355.trans (congrArg some Zk)
 t0:=underlying0
 a0:=Tryz.isAgg0
 z0:=Tryz.sizeOf0
 v0:=Tryz.zeroValue0
 t2:=underlying2
 a2:=Tryz.isAgg2
 z2:=Tryz.sizeOf2
 v2:=Tryz.zeroValue2
 t3:=underlying3
 a3:=Tryz.isAgg3
 z3:=Tryz.sizeOf3
 v3:=Tryz.zeroValue3
 t4:=underlying4
 a4:=Tryz.isAgg4
 z4:=Tryz.sizeOf4
 v4:=Tryz.zeroValue4
 t5:=underlying5
 a5:=Tryz.isAgg5
 z5:=Tryz.sizeOf5
 v5:=Tryz.zeroValue5
 t9:=underlying9
 a9:=Tryz.isAgg9
 z9:=Tryz.sizeOf9
 v9:=Tryz.zeroValue9
 t20:=underlying20
 a20:=Tryz.isAgg20
 z20:=Tryz.sizeOf20
 v20:=Tryz.zeroValue20
 t21:=underlying21
 a21:=Tryz.isAgg21
 z21:=Tryz.sizeOf21
 v21:=Tryz.zeroValue21
 t37:=underlying98
 a37:=Tryz.isAgg98
 z37:=Tryz.sizeOf98
 v37:=Tryz.zeroValue98
 t46:=underlying106
 a46:=Tryz.isAgg106
 z46:=Tryz.sizeOf106
 v46:=Tryz.zeroValue106
 t51:=underlying84
 a51:=Tryz.isAgg84
 z51:=Tryz.sizeOf84
 v51:=Tryz.zeroValue84
 t53:=underlying74
 a53:=Tryz.isAgg74
 z53:=Tryz.sizeOf74
 v53:=Tryz.zeroValue74
 t75:=underlying272
 a75:=Tryz.isAgg272
 z75:=Tryz.sizeOf272
 v75:=Tryz.zeroValue272
 t76:=underlying273
 a76:=Tryz.isAgg273
 z76:=Tryz.sizeOf273
 v76:=Tryz.zeroValue273
 t85:=underlying331
 a85:=Tryz.isAgg331
 z85:=Tryz.sizeOf331
 v85:=Tryz.zeroValue331
 t127:=underlying380
 a127:=Tryz.isAgg380
 z127:=Tryz.sizeOf380
 v127:=Tryz.zeroValue380
 t143:=underlying381
 a143:=Tryz.isAgg381
 z143:=Tryz.sizeOf381
 v143:=Tryz.zeroValue381
 t145:=underlying383
 a145:=Tryz.isAgg383
 z145:=Tryz.sizeOf383
 v145:=Tryz.zeroValue383
 t167:=underlying330
 a167:=Tryz.isAgg330
 z167:=Tryz.sizeOf330
 v167:=Tryz.zeroValue330
 t168:=underlying333
 a168:=Tryz.isAgg333
 z168:=Tryz.sizeOf333
 v168:=Tryz.zeroValue333
 t171:=underlying341
 a171:=Tryz.isAgg341
 z171:=Tryz.sizeOf341
 v171:=Tryz.zeroValue341
 t173:=underlying343
 a173:=Tryz.isAgg343
 z173:=Tryz.sizeOf343
 v173:=Tryz.zeroValue343
 t175:=underlying363
 a175:=Tryz.isAgg363
 z175:=Tryz.sizeOf363
 v175:=Tryz.zeroValue363
 t210:=underlying367
 a210:=Tryz.isAgg367
 z210:=Tryz.sizeOf367
 v210:=Tryz.zeroValue367
 t212:=underlying372
 a212:=Tryz.isAgg372
 z212:=Tryz.sizeOf372
 v212:=Tryz.zeroValue372
 t213:=underlying373
 a213:=Tryz.isAgg373
 z213:=Tryz.sizeOf373
 t232:=underlying387
 a232:=Tryz.isAgg387
 z232:=Tryz.sizeOf387
 v232:=Tryz.zeroValue387
 t233:=underlying388
 a233:=Tryz.isAgg388
 z233:=Tryz.sizeOf388
 v233:=Tryz.zeroValue388
 g15:=by kernel_rfl
 g16:=by kernel_rfl
 g17:=by kernel_rfl
 g18:=by kernel_rfl
 g19:=by kernel_rfl
 t80:=underlying389
 a80:=Tryz.isAgg389
 z80:=Tryz.sizeOf389
 v80:=Tryz.zeroValue389
 i0:=by kernel_rfl
 i2:=by kernel_rfl
 i3:=by kernel_rfl
 i4:=by kernel_rfl
 i5:=by kernel_rfl
 i9:=by kernel_rfl
 i20:=by kernel_rfl
 i21:=by kernel_rfl
 i37:=by kernel_rfl
 i46:=by kernel_rfl
 i51:=by kernel_rfl
 i53:=by kernel_rfl
 i75:=by kernel_rfl
 i76:=by kernel_rfl
 i80:=by kernel_rfl
 i85:=by kernel_rfl
 i127:=by kernel_rfl
 i143:=by kernel_rfl
 i145:=by kernel_rfl
 i167:=by kernel_rfl
 i168:=by kernel_rfl
 i171:=by kernel_rfl
 i173:=by kernel_rfl
 i175:=by kernel_rfl
 i210:=by kernel_rfl
 i212:=by kernel_rfl
 i232:=by kernel_rfl
 i233:=by kernel_rfl
 m15:=by kernel_rfl
 m16:=by kernel_rfl
 m17:=by kernel_rfl
 m18:=by kernel_rfl
 m19:=by kernel_rfl
 c0:=by kernel_rfl
 c2:=by kernel_rfl
 c3:=by kernel_rfl
 c4:=by kernel_rfl
 c5:=by kernel_rfl
 c9:=by kernel_rfl
 c20:=by kernel_rfl
 c21:=by kernel_rfl
 c37:=by kernel_rfl
 c46:=by kernel_rfl
 c51:=by kernel_rfl
 c53:=by kernel_rfl
 c75:=by kernel_rfl
 c76:=by kernel_rfl
 c80:=by kernel_rfl
 c85:=by kernel_rfl
 c127:=by kernel_rfl
 c143:=by kernel_rfl
 c145:=by kernel_rfl
 c167:=by kernel_rfl
 c168:=by kernel_rfl
 c171:=by kernel_rfl
 c173:=by kernel_rfl
 c175:=by kernel_rfl
 c210:=by kernel_rfl
 c212:=by kernel_rfl
 c213:=by kernel_rfl
 c232:=by kernel_rfl
 c233:=by kernel_rfl}
def sortI_ren :Go.Shelf.Ren:=⟨fun|5=>214|8=>210|7=>259|19=>254|20=>255|10=>295|11=>296|12=>297|13=>298|14=>299|15=>300|16=>301|17=>302|18=>303|30=>335|31=>285|32=>286|33=>336|34=>337|35=>338|40=>353|n=>n,fun|23=>185|25=>3|3=>3|32=>106|22=>185|0=>0|44=>84|46=>74|4=>4|36=>299|35=>298|41=>228|5=>5|9=>9|53=>325|57=>318|63=>360|64=>361|n=>n,fun|n=>n⟩
theorem sortI :Go.Proofs.SlLaysM.n5 prog sortI_ren:={
 mixed:=by kernel_rfl
 f5:=⟨Tryz.f214.name,by decide,func214.trans (congrArg some Zk)⟩
 f7:=⟨Tryz.f259.name,by decide,func259.trans (congrArg some Zk)⟩
 f8:=func210.trans (congrArg some Zk)
 f10:=⟨Tryz.f295.name,by decide,func295.trans (congrArg some Zk)⟩
 f11:=⟨Tryz.f296.name,by decide,func296.trans (congrArg some Zk)⟩
 f12:=⟨Tryz.f297.name,by decide,func297.trans (congrArg some Zk)⟩
 f13:=⟨Tryz.f298.name,by decide,func298.trans (congrArg some Zk)⟩
 f14:=⟨Tryz.f299.name,by decide,func299.trans (congrArg some Zk)⟩
 f15:=⟨Tryz.f300.name,by decide,func300.trans (congrArg some Zk)⟩
 f16:=⟨Tryz.f301.name,by decide,func301.trans (congrArg some Zk)⟩
 f17:=⟨Tryz.f302.name,by decide,func302.trans (congrArg some Zk)⟩
 f18:=⟨Tryz.f303.name,by decide,func303.trans (congrArg some Zk)⟩
 f19:=func254.trans (congrArg some Zk)
 f20:=func255.trans (congrArg some Zk)
 f30:=⟨Tryz.f335.name,by decide,func335.trans (congrArg some Zk)⟩
 f31:=func285.trans (congrArg some Zk)
 f32:=func286.trans (congrArg some Zk)
 f33:=⟨Tryz.f336.name,by decide,func336.trans (congrArg some Zk)⟩
 f34:=⟨Tryz.f337.name,by decide,func337.trans (congrArg some Zk)⟩
 f35:=⟨Tryz.f338.name,by decide,func338.trans (congrArg some Zk)⟩
 f40:=⟨Tryz.f353.name,by decide,func353.trans (congrArg some Zk)⟩
 t0:=underlying0
 a0:=Tryz.isAgg0
 z0:=Tryz.sizeOf0
 v0:=Tryz.zeroValue0
 t3:=underlying3
 a3:=Tryz.isAgg3
 z3:=Tryz.sizeOf3
 v3:=Tryz.zeroValue3
 t4:=underlying4
 a4:=Tryz.isAgg4
 z4:=Tryz.sizeOf4
 v4:=Tryz.zeroValue4
 t5:=underlying5
 a5:=Tryz.isAgg5
 z5:=Tryz.sizeOf5
 v5:=Tryz.zeroValue5
 t9:=underlying9
 a9:=Tryz.isAgg9
 z9:=Tryz.sizeOf9
 v9:=Tryz.zeroValue9
 t22:=underlying185
 a22:=Tryz.isAgg185
 z22:=Tryz.sizeOf185
 v22:=Tryz.zeroValue185
 t23:=underlying185
 a23:=Tryz.isAgg185
 z23:=Tryz.sizeOf185
 v23:=Tryz.zeroValue185
 t25:=underlying3
 a25:=Tryz.isAgg3
 z25:=Tryz.sizeOf3
 v25:=Tryz.zeroValue3
 t32:=underlying106
 a32:=Tryz.isAgg106
 z32:=Tryz.sizeOf106
 v32:=Tryz.zeroValue106
 t35:=underlying298
 a35:=Tryz.isAgg298
 z35:=Tryz.sizeOf298
 v35:=Tryz.zeroValue298
 t36:=underlying299
 a36:=Tryz.isAgg299
 z36:=Tryz.sizeOf299
 v36:=Tryz.zeroValue299
 t41:=underlying228
 a41:=Tryz.isAgg228
 z41:=Tryz.sizeOf228
 v41:=Tryz.zeroValue228
 t44:=underlying84
 a44:=Tryz.isAgg84
 z44:=Tryz.sizeOf84
 v44:=Tryz.zeroValue84
 t46:=underlying74
 a46:=Tryz.isAgg74
 z46:=Tryz.sizeOf74
 v46:=Tryz.zeroValue74
 t53:=underlying325
 a53:=Tryz.isAgg325
 z53:=Tryz.sizeOf325
 v53:=Tryz.zeroValue325
 t57:=underlying318
 a57:=Tryz.isAgg318
 z57:=Tryz.sizeOf318
 v57:=Tryz.zeroValue318
 t63:=underlying360
 a63:=Tryz.isAgg360
 z63:=Tryz.sizeOf360
 v63:=Tryz.zeroValue360
 t64:=underlying361
 a64:=Tryz.isAgg361
 z64:=Tryz.sizeOf361
 v64:=Tryz.zeroValue361}
end
section
open Go.RowKit Go.Sort Go.Shelf
theorem gTab :prog.globalNamed "internal/strconv.uint64pow10" =some 4:=by kernel_rfl
def T6 (w:World):Prop:=Lib.TabIs prog w "internal/strconv.uint64pow10" .u64 Lib.pow10Tab
structure A2 (w:World):Prop where
 tab:T6 w
 e1:∃t p,w.cell? ⟨2,0,none⟩=some (.iface t p)
 e2:∃t p,w.cell? ⟨3,0,none⟩=some (.iface t p)
 size:7<=w.heap.size
theorem A2.keep {S:Nat->Prop}{w w':World}(h:A2 w)(k:Ad S w w')(hs:∀q,S q->7<=q):A2 w':=by
 have e:∀q,q<7->w'.heap[q]? =w.heap[q]? :=fun q hq=>k.block q (Aa4 hq h.size) (fun hS=>absurd (hs q hS) Zo)
 obtain⟨h1,h2,h3,h4⟩:=h
 refine⟨?_,?_,?_,Aaa h4 k.size⟩
 ·unfold T6 Lib.TabIs World.var? at h1⊢
  rw[gTab]at h1⊢
  simp only[AbN]at h1⊢
  rw[e 4 Zd]
  exact h1
 ·unfold World.cell? at h2⊢
  rw[e 2 Zd]
  exact h2
 ·unfold World.cell? at h3⊢
  rw[e 3 Zd]
  exact h3
theorem A2.ext {w w':World}(h:A2 w)(k:Ap w w'):A2 w':=h.keep k fun _ h=>h.elim
theorem T7 (w:World)(k:Nat)(os:Array Obj):Ap w (grow (w.drewN k) os):=by
 refine⟨rfl,rfl,rfl,?_,fun b hb _=> ?_⟩
 ·simp[grow,World.drewN]
 ·simp only[grow,World.drewN,Array.getElem?_append_left hb]
theorem ZZ (n:Int)(w:World)(h0: -9223372036854775808<=n)(h1:n<=9223372036854775807)(ht:T6 w):
  Calls prog 155 #[.int .i64 n] w (AN fun v w'=>v= .string ⟨(Lib.itoa n).toArray⟩∧Ap w w'):=
 (Any.strconv_Itoa itoaL n h0 h1 w ht).mono fun e w' ⟨he,k,os,hw⟩=>⟨_,he,rfl,hw▸T7 w k os⟩
theorem XI (s:ByteArray)(w:World)(hl:s.size<=4294967295)(h:A2 w):
  Calls prog 213 #[.string s] w (AN fun v w'=>(∃n,Lib.atoiAll s.data.toList= .ok n∧v= .tuple #[.int .i64 n,.nilIface]∧Ap w w')∨((∀n,Lib.atoiAll s.data.toList≠ .ok n)∧∃n t p,v= .tuple #[.int .i64 n,.iface t (.pointer p)]∧Ap w w')):=by
 obtain⟨t1,p1,e1⟩:=h.e1
 obtain⟨t2,p2,e2⟩:=h.e2
 rcases hc:Lib.atoiAll s.data.toList with n|_|_
 ·refine(Any.strconv_Atoi_ok atoiL s Zo n hc w).mono fun e w' ⟨he,hw⟩=>⟨_,he,.inl ⟨n,rfl,rfl,?_⟩⟩
  rcases hw with rfl|⟨t,rfl⟩
  ·exact Ad.refl _ _
  ·exact F5 (Lib.bytesWorld_below _ _ _)
 ·exact(Any.strconv_Atoi_syntax atoiL s Zo hc _ w e1 (.inr ⟨t1,p1,rfl⟩)).mono fun e w' ⟨N,he,_,_,hb⟩=>⟨_,he,.inr ⟨(fun n h=>by cases h),_,_,_,rfl,F5 hb⟩⟩
 ·exact(Any.strconv_Atoi_range atoiL s Zo hc _ w e2 (.inr ⟨t2,p2,rfl⟩)).mono fun e w' ⟨N,he,_,_,hb⟩=>⟨_,he,.inr ⟨(fun n h=>by cases h),_,_,_,rfl,F5 hb⟩⟩
theorem LY (l:List Int):AM l=l.map (Value.int .i64):=by
 induction l with
 |nil=>rfl
 |cons x l ih=>rw[B3,ih];rfl
end
def logB :ByteArray:=⟨#[108,111,103,46]⟩
def Am (n:Int):ByteArray:=if 1<=n∧n<=999999999 then logB++⟨(Lib.itoa n).toArray⟩else⟨#[]⟩
theorem dec_len : ∀ (k u : Nat), u < 10 ^ (k + 1) -> (Lib.decDigits u).length <= k + 1
  | 0, u, h => by rw [Lib.decDigits, dif_pos Zo]; simp
  | k + 1, u, h => by
    rw [Lib.decDigits]
    split
    · simp
    · have := dec_len k (u / 10) (by rw [Nat.pow_succ] at h; omega)
      simp only [Aab, AaS]; omega
theorem NW {n:Int}(h0:1<=n)(h1:n<=999999999):(Lib.itoa n).length<=9:=by
 rw[Lib.itoa,if_neg Zo]
 exact dec_len 8 _ Zo
theorem JR {n:Int}(h:n<1∨999999999<n):Am n=⟨#[]⟩:=if_neg Zo
theorem KC {n:Int}(h:¬(n<1∨999999999<n)):Am n=logB++⟨(Lib.itoa n).toArray⟩:=if_pos Zo
def Pu (l:List UInt8):Nat:=l.foldl (fun a c=>a*10+(c.toNat-48)) 0
theorem Se (l:List UInt8)(c:UInt8):Pu (l++[c])=Pu l*10+(c.toNat-48):=by rw[Pu,Abf];rfl
def QW (c:UInt8):Prop:=48<=c.toNat∧c.toNat<=57
theorem Hi (m:Nat)(h:m<10):(UInt8.ofNat (48+m)).toNat=48+m:=by rw[UInt8.toNat_ofNat'];omega
theorem valD_dec : ∀ (u : Nat), Pu (Lib.decDigits u) = u := fun u => by
  induction u using Nat.strongRecOn with
  | _ u ih =>
    rw [Lib.decDigits]
    by_cases c : u < 10
    · rw [dif_pos c, Pu, AaI, List.foldl_nil, Hi u c]; omega
    · rw [dif_neg c, Se, ih (u / 10) Zo, Hi _ Zo]; omega
theorem dec_dig : ∀ (u : Nat), ∀ c ∈ Lib.decDigits u, QW c := fun u => by
  induction u using Nat.strongRecOn with
  | _ u ih =>
    intro x hx
    rw [Lib.decDigits] at hx
    by_cases c : u < 10
    · rw [dif_pos c] at hx
      simp only [Aah] at hx
      subst hx
      rw [QW, Hi u c]; omega
    · rw [dif_neg c] at hx
      rcases List.mem_append.1 hx with hx | hx
      · exact ih (u / 10) Zo x hx
      · simp only [Aah] at hx
        subst hx
        rw [QW, Hi _ Zo]; omega
theorem Yk (u:Nat):Lib.decDigits u≠ []:=by
 rw[Lib.decDigits]
 split
 ·simp
 ·simp
theorem logB_size :logB.size=4:=rfl
theorem Sf {n:Nat}(h1:1<=n)(h2:n<=999999999):Am (n:Int)=logB++⟨(Lib.decDigits n).toArray⟩:=by
 rw[KC Zo,Lib.itoa,if_neg Zo];rfl
theorem Fe {n:Nat}(h1:1<=n)(h2:n<=999999999):(Am (n:Int)).data.toList=[108,111,103,46]++Lib.decDigits n:=by
 rw[Sf h1 h2,ByteArray.data_append,Array.toList_append];rfl
theorem Yl {a b:ByteArray}(h:a.data.toList=b.data.toList):a=b:=ByteArray.ext (Array.toList_inj.1 h)
theorem LZ {n m:Nat}(h1:1<=n)(h2:n<=999999999)(h3:1<=m)(h4:m<=999999999)(e:Am (n:Int)=Am (m:Int)):n=m:=by
 have:=congrArg (fun b=>b.data.toList) e
 simp only[Fe h1 h2,Fe h3 h4]at this
 have:=List.append_cancel_left this
 rw[<-valD_dec n,<-valD_dec m,this]
open Classical in
noncomputable def JE (s:ByteArray):Nat:=if h:∃n:Nat,1<=n∧n<=999999999∧Am (n:Int)=s then Classical.choose h else 0
theorem L0 {n:Nat}(h1:1<=n)(h2:n<=999999999):JE (Am (n:Int))=n:=by
 have h:∃k:Nat,1<=k∧k<=999999999∧Am (k:Int)=Am (n:Int):=⟨n,h1,h2,rfl⟩
 rw[JE,dif_pos h]
 have:=Classical.choose_spec h
 exact LZ this.1 this.2.1 h1 h2 this.2.2
theorem T8 {s:ByteArray}(h:JE s≠0):1<=JE s∧JE s<=999999999∧Am (JE s:Int)=s:=by
 by_cases c:∃n:Nat,1<=n∧n<=999999999∧Am (n:Int)=s
 ·rw[JE,dif_pos c]at h⊢
  exact Classical.choose_spec c
 ·rw[JE,dif_neg c]at h;exact absurd rfl h
theorem IV {s:ByteArray}(h:∀n:Nat,1<=n->n<=999999999->Am (n:Int)≠s):JE s=0:=by
 rw[JE,dif_neg]
 rintro⟨n,h1,h2,h3⟩
 exact h n h1 h2 h3
def Ff (s:ByteArray):Bool:=decide (4<=s.size)&&decide (s.extract 0 4=logB)
def DH (s:ByteArray):ByteArray:=s.extract 4 s.size
theorem NX (s:ByteArray)(i j:Nat):(s.extract i j).data.toList=(s.data.toList.drop i).take (j-i):=by
 rw[ByteArray.data_extract,Array.toList_extract,List.extract]
theorem IW {n:Nat}(h1:1<=n)(h2:n<=999999999):Ff (Am (n:Int))=true∧(DH (Am (n:Int))).data.toList=Lib.decDigits n:=by
 have hl:=Fe h1 h2
 have hsz:(Am (n:Int)).size=4+(Lib.decDigits n).length:=by
  have:=congrArg List.length hl
  rw[Aay,Aab]at this
  exact this
 constructor
 ·rw[Ff,Aao,decide_eq_true_iff,decide_eq_true_iff]
  refine⟨by omega,Yl ?_⟩
  rw[NX,hl]
  simp[logB]
 ·rw[DH,NX,hl,hsz]
  simp
theorem NY {n : Nat} (h1 : 1 <= n) (h2 : n <= 999999999) : Lib.atoiAll (Lib.decDigits n) = .ok (n : Int) := by
  have key : ∀ (l : List UInt8) (acc : Nat), (∀ c ∈ l, QW c) -> l.foldl (fun a c => a * 10 + (c.toNat - 48)) acc <= 999999999 -> Lib.parseUint10 acc l = .ok (l.foldl (fun a c => a * 10 + (c.toNat - 48)) acc) := by
    intro l
    induction l with
    | nil => intro acc _ _; rfl
    | cons c r ih =>
      intro acc hd hle
      have mono : ∀ (l : List UInt8) (a : Nat), a <= l.foldl (fun a c => a * 10 + (c.toNat - 48)) a := by
        intro l
        induction l with
        | nil => intro a; exact Aac _
        | cons x r ih => intro a; exact Aaa (show a <= a * 10 + (x.toNat - 48) by omega) (ih _)
      have hc := hd c Zs
      have h3 := mono r (acc * 10 + (c.toNat - 48))
      rw [AaI] at hle ⊢
      rw [Lib.parseUint10, if_pos ⟨hc.1, hc.2⟩, if_neg Zo, if_neg Zo]
      exact ih _ (fun x hx => hd x (by simp [hx])) hle
  have hd := dec_dig n
  have hv := valD_dec n
  have hne := Yk n
  generalize Lib.decDigits n = l at *
  cases l with
  | nil => exact absurd rfl hne
  | cons c r =>
    have hc := hd c Zs
    have hc1 := hc.1
    have hc2 := hc.2
    have hp : Lib.parseMag (c :: r) = .ok n := by
      rw [Lib.parseMag, if_neg Zs, key _ 0 hd (by rw [Pu] at hv; omega)]
      rw [Pu] at hv
      rw [hv]
    simp only [Lib.atoiAll]
    rw [if_neg Zo, hp]
    simp only
    rw [if_neg Zo, if_neg Zo, if_neg Zo]
noncomputable def EO (s:ByteArray):Option Int:=if JE s=0 then none else some (JE s:Int)
theorem Wh {s:ByteArray}{n:Int}(hm:s.size≠0)(h:Am n=s):EO s=some n:=by
 by_cases c:n<1∨999999999<n
 ·rw[JR c]at h;subst h;exact absurd rfl hm
 ·obtain⟨k,rfl⟩:∃k:Nat,n=k:=⟨n.toNat,by omega⟩
  subst h
  rw[EO,L0 Zo Zo,if_neg Zo]
theorem KD {s:ByteArray}(h:Ff s=false):EO s=none:=by
 rw[EO,IV,if_pos rfl]
 rintro n h1 h2 rfl
 rw[(IW h1 h2).1]at h;cases h
theorem Pv {s:ByteArray}(h:∀n,Lib.atoiAll (DH s).data.toList≠ .ok n):EO s=none:=by
 rw[EO,IV,if_pos rfl]
 rintro n h1 h2 rfl
 exact h n (by rw[(IW h1 h2).2];exact NY h1 h2)
theorem NZ {s:ByteArray}{n:Int}(h:Lib.atoiAll (DH s).data.toList= .ok n)(h2:Am n≠s):EO s=none:=by
 rw[EO,IV,if_pos rfl]
 rintro m h3 h4 rfl
 rw[(IW h3 h4).2,NY h3 h4]at h
 injection h with h
 exact h2 (by rw[<-h])
theorem IX {s:ByteArray}{n:Int}(h:EO s=some n):1<=n∧n<=999999999∧Am n=s:=by
 rw[EO]at h
 split at h
 ·cases h
 ·rename_i h0
  have:=T8 h0
  injection h with h
  subst h
  exact⟨by omega,by omega,this.2.2⟩
noncomputable def D7 (ns:List ByteArray):List Int:=ns.filterMap EO
theorem Ua {ns:List ByteArray}{i:Nat}{s:ByteArray}{n:Int}(h:ns[i]? =some s)(h2:EO s=some n):D7 (ns.take (i+1))=D7 (ns.take i)++[n]:=by
 obtain⟨hi,rfl⟩:=List.getElem?_eq_some_iff.1 h
 rw[D7,AaL hi,List.filterMap_append,List.filterMap_cons_some h2];rfl
theorem JS {ns:List ByteArray}{i:Nat}{s:ByteArray}(h:ns[i]? =some s)(h2:EO s=none):D7 (ns.take (i+1))=D7 (ns.take i):=by
 obtain⟨hi,rfl⟩:=List.getElem?_eq_some_iff.1 h
 rw[D7,AaL hi,List.filterMap_append,List.filterMap_cons_none h2,List.filterMap_nil,Aaw];rfl
theorem N1 (ns:List ByteArray)(i:Nat):(D7 (ns.take i)).length<=ns.length:=Aaa (List.length_filterMap_le _ _) Zt
def DY (l:List Int):List Int:=l.mergeSort (fun x y=>decide (x<=y))
noncomputable def AQ (pl:List PF):List Int:=DY (D7 (A3 pl))
theorem Fg (l:List Int):(DY l).Perm l:=List.mergeSort_perm _ _
theorem MT (l:List Int):(DY l).Pairwise (·<=·):=(List.pairwise_mergeSort (le:=fun x y=>decide (x<=y)) (fun a b c h1 h2=>by simp only[decide_eq_true_eq]at*;omega) (fun a b=>by simp only[AbD,decide_eq_true_eq];omega) l).imp fun h=>by simpa using h
theorem sorted_unique :∀{l m:List Int},l.Perm m->l.Pairwise (·<=·)->m.Pairwise (·<=·)->l=m:=fun p h1 h2=>p.eq_of_pairwise (fun a b _ _ h h'=>by omega) h1 h2
theorem CF {pl:List PF}{n:Int}:n∈AQ pl↔1<=n∧n<=999999999∧Cs pl (Am n)=true:=by
 rw[AQ,(Fg _).mem_iff,D7,List.mem_filterMap]
 constructor
 ·rintro⟨s,hs,h⟩
  have h3:=IX h
  rw[A3,Cf.mem_iff]at hs
  obtain⟨f,hf,rfl⟩:=List.mem_map.1 hs
  exact⟨h3.1,h3.2.1,Bg.2 ⟨f,hf,h3.2.2.symm⟩⟩
 ·rintro⟨h1,h2,h3⟩
  obtain⟨f,hf,e⟩:=Bg.1 h3
  refine⟨Am n,?_,?_⟩
  ·rw[A3,Cf.mem_iff];exact List.mem_map.2 ⟨f,hf,e⟩
  ·obtain⟨k,rfl⟩:∃k:Nat,n=k:=⟨n.toNat,by omega⟩
   rw[EO,L0 Zo Zo,if_neg Zo]
theorem N2 {pl:List PF}(h:(pl.map (·.name)).Nodup):(AQ pl).Nodup:=by
 rw[AQ,(Fg _).nodup_iff,D7]
 have h2:(A3 pl).Nodup:=Cf.nodup_iff.2 h
 rw[List.Nodup,List.pairwise_filterMap]
 exact h2.imp fun{a b} hne x hx y hy e=>hne (by rw[<-(IX hx).2.2,<-(IX hy).2.2,e])
theorem HQ {pl:List PF}(h:(pl.map (·.name)).Nodup):(AQ pl).Pairwise (·<·):=
 (List.pairwise_and_iff.2 ⟨MT _,N2 h⟩).imp fun⟨h1,h2⟩=>by have:_≠_:=h2;omega
theorem E1 (pl:List PF):(AQ pl).length<=pl.length:=by
 rw[AQ,(Fg _).length_eq,D7]
 refine Aaa (List.length_filterMap_le _ _) ?_
 rw[A3,Cf.length_eq,Aad];exact Aac _
theorem BY (n:Int):(Am n).size<=13:=by
 by_cases c:n<1∨999999999<n
 ·rw[JR c];decide
 ·rw[KC c,ByteArray.size_append,logB_size]
  have:=NW (n:=n) Zo Zo
  have e:(⟨(Lib.itoa n).toArray⟩:ByteArray).size=(Lib.itoa n).length:=rfl
  omega
section
open Go.RowKit Go.Sort Go.Shelf
theorem sortZ_nil :DY []=[]:=by simp[DY]
theorem Pw (s:ByteArray):(DH s).size<=s.size:=by
 rw[DH,ByteArray.size_extract];omega
theorem Ym {a:Option Addr}{xs:List Int}{c:Nat}{w:World}(hs:Af w 3 a c xs)(hl:xs.length<=4294967295):
  Calls prog 214 #[.slice a xs.length c] w (AN fun v w'=>v= .tuple #[]∧Af w' 3 a c (DY xs)∧Ad (own a) w w'):=by
 rcases hs.2 with⟨e,h0⟩|⟨g,cap,cur,e,h3,h4,h5,h6,h7,h8⟩
 ·have:xs=[]:=AaK h0
  subst this
  injection e with e1 e2 e3
  subst e1
  subst e3
  exact(AnyM.slices_Sort_int_none sortI none 0 w).mono fun e w' h=>⟨_,h.1,rfl,by rw[h.2,sortZ_nil];exact Af.nil _ _,by rw[h.2];exact Ad.refl _ _⟩
 ·injection e with e1 e2 e3
  subst e1
  subst e3
  have h8':cur.toList.take xs.length=AM xs:=by have e:xs.length*Enc.size Int=xs.length:=Abx _;rw[e]at h8;exact h8
  have hH:Go.Sort.Holds (Value.int .i64) w g 0 xs.toArray:=holds_of_blockI h4 (by rw[h8',LY])
  refine(AnyM.slices_Sort_int sortI g 0 c xs w hH (Array.getElem?_eq_some_iff.1 h4).1 Zo).mono fun e w' he=> ?_
  obtain⟨rfl,n,os,rfl⟩:=he
  refine⟨_,rfl,rfl,?_,?_⟩
  ·have hr:=ownsRow_sortedI (n:=n) (os:=os) (base:=0) (ss:=xs) (ts:=xs.mergeSort fun x y=>decide (x<=y)) Zs (Aal _) h4 h5 h6 h7
   have e1:(xs.mergeSort fun x y=>decide (x<=y)).map (Value.int .i64)=AM (DY xs):=by rw[LY];rfl
   rw[e1]at hr
   have e2:xs.length=(DY xs).length:=(Fg xs).length_eq.symm
   rw[e2]at hr
   exact hr
  ·have hg:=grownBy_sortedI (w:=w) (g:=g) (n:=n) (os:=os) (xs.mergeSort fun x y=>decide (x<=y)).toArray
   exact⟨hg.os,hg.tape,hg.output,hg.size,fun k hk hne=>hg.block k hk (fun e=>hne (by injection e with e;subst e;rw[CG]))⟩
end
attribute [local irreducible] Am AQ DY D7 EO Ff DH
theorem Wi (s:ByteArray):(decide ((4:Int)<=((s.size:Nat):Int))&&decide (s.extract 0 4=(⟨#[108,111,103,46]⟩:ByteArray)))=Ff s:=by
 unfold Ff logB
 have:decide ((4:Int)<=((s.size:Nat):Int))=decide (4<=s.size):=by apply decide_eq_decide.2;omega
 rw[this]
theorem Sg {s:ByteArray}(h:Ff s=true):4<=s.size:=by unfold Ff at h;rw[Aao]at h;exact of_decide_eq_true h.1
theorem IY {room:Int}{pl:List PF}(h:BV room pl){i:Nat}{s:ByteArray}(hs:(A3 pl)[i]? =some s):s.size≠0∧s.size<=32:=by
 have hm:s∈A3 pl:=Aan hs
 rw[A3,Cf.mem_iff]at hm
 obtain⟨f,hf,rfl⟩:=List.mem_map.1 hm
 have:=h.may f hf
 simp only[CK,Aao,decide_eq_true_eq]at this
 omega
attribute [local irreducible] X
theorem CI (n:Int)(w:World)(hL:A2 w):
  Calls prog 92 #[.int .i64 n] w (AN (fun v w'=>v= .string (Am n)∧Ap w w')):=by
 have hLs:=hL.size;refine Ac (n:=12) func92 rfl rfl rfl ?_;refine jG ?_;refine jV (D8 rfl rfl rfl) ?_;refine jG ?_;refine jF ?_ ?_
 ·intro hc8
  refine jG ?_;refine jJ func92 ?_;exact⟨_,rfl,by rw[JR hc8],(Ad.refl _ w)⟩
 ·intro hc8
  have hil:=NW (n:=n) Zo Zo;have hls:(⟨#[108,111,103,46]⟩:ByteArray).size=4:=rfl;have his:(⟨(Lib.itoa n).toArray⟩:ByteArray).size=(Lib.itoa n).length:=rfl;refine jG ?_;refine jR<|jC (ZZ n _ Zo Zo hL.tab) ?_;rintro _ a1 ⟨rfl,a0⟩;have K0:=(a0:Ap w _);refine jV (X8 rfl rfl Zo) ?_;refine jG ?_;refine jJ func92 ?_;exact⟨_,rfl,by rw[KC Zo];unfold logB;rfl,K0⟩
theorem Wj (s:ByteArray)(w:World):
  Calls prog 289 #[.string s,.string (⟨#[108,111,103,46]⟩)] w (AN (fun v w'=>v= .bool (Ff s)∧Ap w w')):=by
 refine Ac (n:=18) func289 rfl rfl rfl ?_;refine jG ?_;refine jV (DC underlying9 rfl) ?_;refine jG ?_;refine jV (Az (c:=4) (DC underlying9 rfl) rfl) ?_;refine jG ?_;refine jW ?_ (hx:=by exact fun hg=>(Az (c:=4) (DC underlying9 (BR hg)) rfl));refine jW ?_ (hx:=by exact fun hg=>(RK (j:=4) underlying9 (BR hg) (BR hg) (by simp only[br]at hg;omega)));refine jG ?_;refine jW ?_ (hx:=by exact fun hg=>(Tt (BR hg) (BR hg)));refine jV (Be rfl rfl rfl) ?_;refine jG ?_;refine jJ func289 ?_;exact⟨_,rfl,by rw[Wi],(Ad.refl _ w)⟩
theorem Wk (s:ByteArray)(w:World):
  Calls prog 256 #[.string s,.string (⟨#[108,111,103,46]⟩)] w (AN (fun v w'=>(Ff s=true∧v= .tuple #[.string (DH s),.bool true]∧Ap w w')∨(Ff s=false∧v= .tuple #[.string s,.bool false]∧Ap w w'))):=by
 refine Ac (n:=15) func256 rfl rfl rfl ?_;refine jG ?_;refine jR<|jC (Wj s _) ?_;rintro _ a1 ⟨rfl,a0⟩;have K0:=(a0:Ap w _);refine jG ?_;refine jF ?_ ?_
 ·intro hc9
  refine jG ?_;refine jK func256 ?_;exact⟨_,rfl,.inr ⟨by simpa using hc9,rfl,K0⟩⟩
 ·intro hc9
  have hPs:=Sg (s:=s) (by simpa using hc9);refine jG ?_;refine jV (Az (c:=4) (DC underlying9 rfl) rfl) ?_;refine jV (Jk (i:=4) underlying9 rfl rfl Zo) ?_;refine jG ?_;refine jK func256 ?_;exact⟨_,rfl,.inl ⟨by simpa using hc9,by unfold DH;rfl,K0⟩⟩
theorem Wl (s:ByteArray)(w:World):
  Calls prog 212 #[.string s,.string (⟨#[108,111,103,46]⟩)] w (AN (fun v w'=>(Ff s=true∧v= .tuple #[.string (DH s),.bool true]∧Ap w w')∨(Ff s=false∧v= .tuple #[.string s,.bool false]∧Ap w w'))):=by
 refine Ac (n:=11) func212 rfl rfl rfl ?_;refine jG ?_;refine jR<|jC (Wk s _) ?_;rintro _ a3 a0;rcases a0 with a0|a0
 ·obtain⟨hPre,rfl,a1⟩:=a0
  have K0:=(a1:Ap w _);refine jG ?_;refine jK func212 ?_;exact⟨_,rfl,.inl ⟨hPre,rfl,K0⟩⟩
 ·obtain⟨hPre,rfl,a2⟩:=a0
  have K0:=(a2:Ap w _);refine jG ?_;refine jK func212 ?_;exact⟨_,rfl,.inr ⟨hPre,rfl,K0⟩⟩
theorem Ub (b d:Nat)(F:Nat->Prop)(room:Int)(pl:List PF)(w:World)(hb:AB w b [jp d] 161)(hD:AG w d F room pl)(hbd:¬F b)(hL:A2 w):
  Calls prog 154 #[jp b] w (AN (fun v w'=>∃a' c',v= .slice a' (AQ pl).length c'∧Af w' 3 a' c' (AQ pl)∧(∀q,own a' q->w.heap.size<=q)∧Ap w w')):=by
 have hLs:=hL.size;have hok:=hD.ok;have hlen:=hok.len;have hsl:=E1 pl;have hnl:(A3 pl).length<=64:=by rw[A3,Cf.length_eq,Aad];exact hlen
 refine Ac (n:=58) func154 rfl rfl rfl ?_;refine jG ?_;refine jV (D9 (Dm underlying222 rfl rfl) rfl) ?_;refine jG ?_;refine jT<|jO (D9 (Dm underlying23 rfl rfl) rfl) ?_;refine jV (E6 rfl rfl rfl) ?_;refine jG ?_;refine Ai.condF rfl ?_;refine jG ?_;refine jR<|jC (TX hD) ?_;rintro _ aq ⟨aj,am,rfl,a0,ar,ak⟩;clear ar;have K0:=(ak:Ap w _);refine jG ?_;replace hb:=hb.ext ak;replace hD:=hD.ext ak;replace hL:=hL.ext ak;refine Ai.loop (ι:=Nat) (fun i ρ' w'=>∃az:Option Addr,∃cz:Nat,Holds ρ' [(3,.slice az ((D7 ((A3 pl).take i)).length) cz),(23,.slice aj ((A3 pl).length) am),(24,.int .i64 (((A3 pl).length:Nat):Int)),(25,.int .i64 ((i:Nat):Int))]∧Ap w w'∧(AB w' b [jp d] 161)∧(A2 w')∧(AG w' d F room pl)∧(Af w' 9 aj am (A3 pl))∧(Af w' 3 az cz (D7 ((A3 pl).take i)))∧(¬own az b)∧(∀q_,own az q_->¬F q_)∧(∀q_,own az q_->¬own aj q_)∧(∀q_,own az q_->w.heap.size<=q_)∧(i<=(A3 pl).length)) (fun i=>(A3 pl).length-i) 0 ?_ ?_
 ·rw[show D7 ((A3 pl).take 0)=[]by rw[AaE];unfold D7;rfl]
  have au:=Af.nil (α:=Int) aq 3;refine⟨_,_,⟨rfl,rfl,rfl,rfl,trivial⟩,K0,hb,hL,hD,a0,au,(Ae b),(fun q_ h1 _=>Ae q_ h1),(fun q_ h1 _=>Ae q_ h1),(fun q_ h1=>absurd h1 (Ae q_)),?_⟩
  ·omega
 clear hb hD a0;clear K0;rintro i aF aG ⟨az,cz,ao,K0,hb,hL,hD,a0,a1,a3,a4,a5,a2,hi⟩ ih1;obtain⟨ρ₀,rfl⟩:=ao.ex;clear ao;refine jG ?_;refine jF ?_ ?_
 ·intro hc26
  obtain⟨aH,aI,s,hs,aJ,aK⟩:=a0.sl.eo i;have hsm:=IY hok hs;have hil:=N1 (A3 pl) i;have hrs:=Pw s;refine jG ?_;refine jR<|jC (Wl s _) ?_;rintro _ aL ae;rcases ae with ae|ae
  ·obtain⟨hPre,rfl,a6⟩:=ae
   refine jG ?_;replace hL:=hL.ext a6;refine jR<|jC (XI (DH s) _ Zo hL) ?_;rintro _ aM af;replace hb:=hb.ext a6;replace hD:=hD.ext a6;replace a0:=a0.ext a6;replace a1:=a1.ext a6;replace K0:=K0.ext a6;rcases af with af|af
   ·obtain⟨an,hAn,rfl,a7⟩:=af
    refine H7 ?_;refine jV (Ch (v:= .nilIface) rfl) ?_;refine Em ?_;refine jT<|jO (DL (v:= .nilIface) rfl) ?_;refine jT<|jO (Ya Zk rfl rfl) ?_;refine jV (BU rfl rfl rfl) ?_;refine jG ?_;replace hL:=hL.ext a7;refine jT<|jC (CI an _ hL) ?_;rintro _ aN ⟨rfl,a8⟩;refine jG ?_;refine jT<|jO (Tt rfl rfl) ?_;refine jV (BU rfl rfl rfl) ?_;refine jG ?_;replace hb:=(hb.ext a7).ext a8;replace hD:=(hD.ext a7).ext a8;replace a0:=(a0.ext a7).ext a8;replace a1:=(a1.ext a7).ext a8;replace K0:=(K0.ext a7).ext a8;replace hL:=hL.ext a8;refine jF ?_ ?_
    ·intro hc49
     refine jG ?_;refine jR<|AA.buildSlice ([an]:List Int) underlying185 ty3 rfl rfl Ze ?_;intro aO aP av aw a9;clear av;replace a1:=a1.ext a9;refine jR<|AA.append (xs:=D7 ((A3 pl).take i)) (ys:=([an]:List Int)) underlying185 ty3 rfl rfl rfl a1 aw.sl Zr Zd ?_;intro al aQ aR ax ag ah ay;replace hb:=hb.ext a9;have aA:¬own al b:=ah.not a3 hb.lt;replace hD:=hD.ext a9;have aB:∀q_,own al q_->¬F q_:=ah.apart a4 hD.oL;replace a0:=a0.ext a9;have aC:∀q_,own al q_->¬own aj q_:=ah.apart a5 a0.oL;replace K0:=K0.ext a9;have aD:∀q_,own al q_->w.heap.size<=q_:=ah.ge a2 K0.size;clear ah;clear ay;refine jG ?_;refine jV (Az (c:=((i+1:Nat):Int)) (Au rfl rfl Zo Zo) rfl) ?_;refine jG ?_;have e:=Ua hs (Wh hsm.1 hc49);refine ih1 (i+1) _ _ ?_ Zo;rw[e];replace hL:=(hL.ext a9).keep ag (fun q_ hq_=>Aaa hLs (a2 q_ hq_));replace hb:=hb.keep ag a3;replace hD:=hD.kO ag (Zf a4);replace a0:=a0.kO ag (Zf a5);replace K0:=K0.new ag a2;refine⟨_,_,⟨rfl,rfl,rfl,rfl,trivial⟩,K0,hb,hL,hD,a0,ax,aA,aB,aC,aD,?_⟩
     ·omega
    ·intro hc49
     refine jG ?_;refine jV (Az (c:=((i+1:Nat):Int)) (Au rfl rfl Zo Zo) rfl) ?_;refine jG ?_;have e:=JS hs (NZ hAn hc49);refine ih1 (i+1) _ _ ?_ Zo;rw[e];refine⟨_,_,⟨rfl,rfl,rfl,rfl,trivial⟩,K0,hb,hL,hD,a0,a1,a3,a4,a5,a2,?_⟩
     ·omega
   ·obtain⟨hAn,en_,et_,ep_,rfl,aa⟩:=af
    refine H7 ?_;refine jV (Ch (v:= .iface et_ (.pointer ep_)) rfl) ?_;refine Em ?_;refine jT<|jO (DL (v:= .iface et_ (.pointer ep_)) rfl) ?_;refine jT<|jO (X9 Zk rfl rfl) ?_;refine jV (BU rfl rfl rfl) ?_;refine jG ?_;refine jV (Be (b:=false) (e:=false) rfl rfl rfl) ?_;refine jG ?_;refine Ai.condF rfl ?_;refine jG ?_;refine jV (Az (c:=((i+1:Nat):Int)) (Au rfl rfl Zo Zo) rfl) ?_;refine jG ?_;have e:=JS hs (Pv hAn);refine ih1 (i+1) _ _ ?_ Zo;rw[e];replace hb:=hb.ext aa;replace hL:=hL.ext aa;replace hD:=hD.ext aa;replace a0:=a0.ext aa;replace a1:=a1.ext aa;replace K0:=K0.ext aa;refine⟨_,_,⟨rfl,rfl,rfl,rfl,trivial⟩,K0,hb,hL,hD,a0,a1,a3,a4,a5,a2,?_⟩
    ·omega
  ·obtain⟨hPre,rfl,ab⟩:=ae
   refine jG ?_;replace hL:=hL.ext ab;refine jR<|jC (XI s _ Zo hL) ?_;rintro _ aS ai;replace hb:=hb.ext ab;replace hD:=hD.ext ab;replace a0:=a0.ext ab;replace a1:=a1.ext ab;replace K0:=K0.ext ab;rcases ai with ai|ai
   ·obtain⟨an,hAn,rfl,ac⟩:=ai
    refine H7 ?_;refine jV (Ch (v:= .nilIface) rfl) ?_;refine jG ?_;refine jV (Be (b:=false) (e:=false) rfl rfl rfl) ?_;refine jG ?_;refine jV (Be (b:=false) (e:=false) rfl rfl rfl) ?_;refine jG ?_;refine Ai.condF rfl ?_;refine jG ?_;refine jV (Az (c:=((i+1:Nat):Int)) (Au rfl rfl Zo Zo) rfl) ?_;refine jG ?_;have e:=JS hs (KD hPre);refine ih1 (i+1) _ _ ?_ Zo;rw[e];replace hb:=hb.ext ac;replace hL:=hL.ext ac;replace hD:=hD.ext ac;replace a0:=a0.ext ac;replace a1:=a1.ext ac;replace K0:=K0.ext ac;refine⟨_,_,⟨rfl,rfl,rfl,rfl,trivial⟩,K0,hb,hL,hD,a0,a1,a3,a4,a5,a2,?_⟩
    ·omega
   ·obtain⟨hAn,en_,et_,ep_,rfl,ad⟩:=ai
    refine H7 ?_;refine jV (Ch (v:= .iface et_ (.pointer ep_)) rfl) ?_;refine jG ?_;refine jV (Be (b:=false) (e:=false) rfl rfl rfl) ?_;refine jG ?_;refine jV (Be (b:=false) (e:=false) rfl rfl rfl) ?_;refine jG ?_;refine Ai.condF rfl ?_;refine jG ?_;refine jV (Az (c:=((i+1:Nat):Int)) (Au rfl rfl Zo Zo) rfl) ?_;refine jG ?_;have e:=JS hs (KD hPre);refine ih1 (i+1) _ _ ?_ Zo;rw[e];replace hb:=hb.ext ad;replace hL:=hL.ext ad;replace hD:=hD.ext ad;replace a0:=a0.ext ad;replace a1:=a1.ext ad;replace K0:=K0.ext ad;refine⟨_,_,⟨rfl,rfl,rfl,rfl,trivial⟩,K0,hb,hL,hD,a0,a1,a3,a4,a5,a2,?_⟩
    ·omega
 ·intro hc26
  have hil:=N1 (A3 pl) i;refine jG ?_;refine jR<|jC (Ym a1 Zo) ?_;rintro _ aT ⟨rfl,ap,aE⟩;replace a1:=ap;clear ap;refine jG ?_;refine jJ func154 ?_;have hie:i=(A3 pl).length:=by omega
  subst hie;rw[Aas]at a1;have e_:DY (D7 (A3 pl))=AQ pl:=by unfold AQ;rfl
  have e2_:(D7 ((A3 pl).take (A3 pl).length)).length=(AQ pl).length:=by rw[Aas,<-e_,(Fg _).length_eq]
  rw[e_]at a1;rw[e2_];replace K0:=K0.new aE a2;exact⟨_,rfl,az,cz,rfl,a1,a2,K0⟩
end Go.Proofs.YtjkaicjmfgekjaaGreatDoor
namespace Go.Proofs.YtjkaicjmfgekjaaGreatDoor
open Go.Proofs.Tryz
attribute [local irreducible] RD RS AA RL RA RT Cz Ai crcN CH Cx F8 B1 leL CM Am AQ DY D7 EO Ff DH
structure RB where
 a:Option Addr
 c:Nat
 b:List UInt8
def RB.h (r:RB):SH:=⟨r.a,r.b.length,r.c⟩
def Bi (rs:List RB):Nat->Prop:=fun q=>∃r∈rs,own r.a q
def BJ (w:World)(rs:List RB):Prop:=∀r∈rs,Af w 5 r.a r.c r.b
section
variable {w w':World}{S:Nat->Prop}{rs ss:List RB}{r:RB}
theorem BJ.oL (h:BJ w rs):∀q,Bi rs q->q<w.heap.size:=fun q ⟨r,hr,hq⟩=>(h r hr).oL q hq
theorem BJ.kO (h:BJ w rs)(k:Ad S w w')(hn:∀q,Bi rs q->¬S q):BJ w' rs:=fun r hr=>(h r hr).kO k (fun q hq=>hn q ⟨r,hr,hq⟩)
theorem BJ.ext (h:BJ w rs)(k:Ap w w'):BJ w' rs:=h.kO k fun _ _=>id
theorem BJ.nil (w:World):BJ w []:=fun _ h=>absurd h Zs
theorem BJ.app (h:BJ w rs)(h2:BJ w ss):BJ w (rs++ss):=fun r hr=>(List.mem_append.1 hr).elim (h r) (h2 r)
theorem BJ.snoc (h:BJ w rs){a:Option Addr}{c:Nat}{b:List UInt8}(h2:Af w 5 a c b):BJ w (rs++[⟨a,c,b⟩]):=h.app fun r hr=>by simp only[Aah]at hr;subst hr;exact h2
theorem BJ.sub (h:BJ w rs)(hs:∀r∈ss,r∈rs):BJ w ss:=fun r hr=>h r (hs r hr)
theorem recs_case :∀q,Bi (rs++ss) q->Bi rs q∨Bi ss q:=fun q ⟨r,hr,hq⟩=>(List.mem_append.1 hr).elim (fun h=> .inl ⟨r,h,hq⟩) (fun h=> .inr ⟨r,h,hq⟩)
theorem HR {a:Option Addr}{c:Nat}{b:List UInt8}:∀q,Bi (rs++[⟨a,c,b⟩]) q->own a q∨Bi rs q:=fun q h=>(recs_case q h).elim .inr (fun⟨r,hr,hq⟩=>by simp only[Aah]at hr;subst hr;exact .inl hq)
theorem Ga (hs:∀r∈ss,r∈rs):∀q,Bi ss q->Bi rs q:=fun q ⟨r,hr,hq⟩=>⟨r,hs r hr,hq⟩
theorem Wm (h:BJ w rs){j:Nat}{s:SH}(hs:(rs.map RB.h)[j]? =some s):∃r,rs[j]? =some r∧s=r.h∧Af w 5 r.a r.c r.b:=by
 rw[Aax,Abp]at hs
 obtain⟨r,hr,rfl⟩:=hs
 exact⟨r,hr,rfl,h r (Aan hr)⟩
end
structure Uc (w:World)(a:Option Addr)(xs:List UInt8):Prop where
 sl:Av w a xs
 lt:∀q,own a q->q<w.heap.size
theorem Uc.oL {w:World}{a:Option Addr}{xs:List UInt8}(h:Uc w a xs):∀q,own a q->q<w.heap.size:=h.lt
theorem Uc.kO {S:Nat->Prop}{w w':World}{a:Option Addr}{xs:List UInt8}(h:Uc w a xs)(k:Ad S w w')(hn:∀q,own a q->¬S q):Uc w' a xs:=⟨h.sl.keep k (fun x hx=>hn _ ⟨x,hx,rfl⟩),fun q hq=>Aa4 (h.lt q hq) k.size⟩
theorem Uc.ext {w w':World}{a:Option Addr}{xs:List UInt8}(h:Uc w a xs)(k:Ap w w'):Uc w' a xs:=h.kO k fun _ _=>id
theorem Af.slo {w:World}{T:TypeId}{a:Option Addr}{c:Nat}{xs:List UInt8}(h:Af w T a c xs):Uc w a xs:=⟨h.sl,h.oL⟩
def AR (b:List UInt8):List (List UInt8)×List UInt8:=
 if b=[]then([],[])else match h:CM b with
 | .error _=>([],b)
 | .ok (p,r)=>(p::(AR r).1,(AR r).2)
termination_by b.length
decreasing_by all_goals (have:=(Kz h).1;omega)
theorem framesR_nil :AR []=([],[]):=by rw[AR];simp
theorem G2 {b:List UInt8}{e:Int}(h0:b≠ [])(h:CM b= .error e):AR b=([],b):=by
 rw[AR,if_neg h0]
 split
 ·rfl
 ·rename_i h2;rw[h]at h2;cases h2
theorem Gy {b p r:List UInt8}(h0:b≠ [])(h:CM b= .ok (p,r)):AR b=(p::(AR r).1,(AR r).2):=by
 rw[AR,if_neg h0]
 split
 ·rename_i h2;rw[h]at h2;cases h2
 ·rename_i h2;rw[h]at h2;cases h2;rfl
theorem framesR_len : ∀ (b : List UInt8), (AR b).1.length * 5 + (AR b).2.length <= b.length := fun b => by
  induction hb : b.length using Nat.strongRecOn generalizing b with
  | _ k ih =>
    by_cases h0 : b = []
    · subst h0; rw [framesR_nil]; simp
    cases h : CM b with
    | error e => rw [G2 h0 h]; simp; omega
    | ok q =>
      obtain ⟨p, r⟩ := q
      have h2 := (Kz h).1
      have := ih r.length Zo r rfl
      rw [Gy h0 h]
      simp only [Aaj]
      omega
theorem Dv {b:List UInt8}(h:0<b.length):b≠ []:=fun e=>by subst e;exact absurd h Zd
def freshN :ByteArray:=⟨#[108,111,103,46,110,101,119]⟩
noncomputable def Bj (pl:List PF):Int:=((AQ pl).getLast?).getD 0
def C6 (room:Int)(pl:List PF)(b:List UInt8)(n:Int):Int×List PF:=
 if De room pl freshN b=0 then
  if CL (Df room pl freshN b) freshN=0 then(ET (Cd (Df room pl freshN b) freshN) freshN (Am n),Hy (Cd (Df room pl freshN b) freshN) freshN (Am n))
  else(CL (Df room pl freshN b) freshN,Cd (Df room pl freshN b) freshN)
 else(De room pl freshN b,Df room pl freshN b)
def Ed (pl:List PF)(ns:List Int):List PF:=pl.filter fun f=> !ns.any fun n=>decide (f.name=Am n)
def Gb (room:Int)(pl:List PF)(b:List UInt8)(n:Int)(rest:List Int):Int×List PF:=
 if b=[]then(0,Ed (Bp pl (Am n)) rest)else if (C6 room pl b n).1=0 then(0,Ed (C6 room pl b n).2 rest)else C6 room pl b n
theorem Hj (pl:List PF):Ed pl []=pl:=by rw[Ed,Abq];simp
theorem KE (pl:List PF)(n:Int)(ns:List Int):Ed pl (n::ns)=Bp (Ed pl ns) (Am n):=by
 rw[Ed,Bp,Ed,Aca]
 refine List.filter_congr fun f _=> ?_
 by_cases h:f.name=Am n<;>simp[h]
section
variable {room :Int}{pl:List PF}{b:List UInt8}{n m:Int}
theorem MU {s t:ByteArray}(h:Cs pl s=true)(hne:s≠t):Cs (Bp pl t) s=true:=by
 obtain⟨f,hf,rfl⟩:=Bg.1 h
 exact Bg.2 ⟨f,List.mem_filter.2 ⟨hf,by simpa using hne⟩,rfl⟩
theorem MW {s t:ByteArray}{u:PF->PF}(hu:∀f,(u f).name=f.name)(h:Cs pl s=true):Cs (DF pl t u) s=true:=by
 obtain⟨f,hf,rfl⟩:=Bg.1 h
 refine Bg.2 ⟨_,List.mem_map.2 ⟨f,hf,rfl⟩,?_⟩
 split
 ·exact hu f
 ·rfl
theorem MX {s t:ByteArray}(h:Cs pl s=true):Cs (Df room pl t b) s=true:=by
 rw[Df]
 split
 ·split
  ·exact MW (fun _=>rfl) h
  ·obtain⟨f,hf,rfl⟩:=Bg.1 h
   exact Bg.2 ⟨f,AaM _ hf,rfl⟩
 ·exact h
theorem Wn {s t t2:ByteArray}(h:Cs pl s=true)(h1:s≠t)(h2:s≠t2):Cs (Hy pl t t2) s=true:=by
 rw[Hy]
 split
 ·split
  ·obtain⟨f,hf,rfl⟩:=Bg.1 (MU (MU h h1) h2)
   exact Bg.2 ⟨f,AaM _ hf,rfl⟩
  ·exact h
 ·exact h
theorem Ud {s:ByteArray}(h:Cs pl s=true)(h1:s≠freshN)(h2:s≠Am n):Cs (C6 room pl b n).2 s=true:=by
 rw[C6]
 split
 ·split
  ·exact Wn (MW (fun _=>rfl) (MX h)) h1 h2
  ·exact MW (fun _=>rfl) (MX h)
 ·exact MX h
theorem L1 (n:Int):Am n≠freshN:=by
 intro e
 by_cases c:n<1∨999999999<n
 ·rw[JR c]at e;exact absurd e Zd
 ·obtain⟨k,rfl⟩:∃k:Nat,n=k:=⟨n.toNat,by omega⟩
  have h1:=Fe (n:=k) Zo Zo
  rw[e]at h1
  have h2:=dec_dig k
  have h3:Lib.decDigits k=[110,101,119]:=by
   have:freshN.data.toList=[108,111,103,46]++[110,101,119]:=rfl
   rw[this]at h1
   exact(List.append_cancel_left h1).symm
  have:=h2 110 (by rw[h3];simp)
  exact absurd this.2 Zd
theorem Dp {n:Int}(h1:1<=n)(h2:n<=999999999):CK (Am n)=true:=by
 obtain⟨k,rfl⟩:∃k:Nat,n=k:=⟨n.toNat,by omega⟩
 have hs:=BY (k:Int)
 have hl:=Fe (n:=k) Zo Zo
 have hne:(Am (k:Int)).size≠0:=by
  have h3:=congrArg List.length hl
  rw[Aay,Aab]at h3
  have h4:(Am (k:Int)).size=(Am (k:Int)).data.size:=rfl
  simp only[Aaj]at h3
  omega
 rw[CK,Aao,Aao,decide_eq_true_iff,decide_eq_true_iff]
 refine⟨?_,hne,by omega⟩
 rw[hl,List.all_append,Aao]
 refine⟨by decide,List.all_eq_true.2 fun c hc=> ?_⟩
 have:=dec_dig k c hc
 rw[VM,decide_eq_true_iff]
 exact .inr (.inr (.inr (.inl ⟨this.1,this.2⟩)))
theorem Ee {s:ByteArray}(hm:CK s=true)(h:Cs pl s=true):CL pl s=0:=by rw[CL,if_pos hm,if_pos h]
theorem Ii (h:n∈AQ pl):CL pl (Am n)=0:=by
 obtain⟨h1,h2,h3⟩:=CF.1 h
 exact Ee (Dp h1 h2) h3
theorem G3 {n m:Int}(h1:1<=n)(h2:n<=999999999)(h3:1<=m)(h4:m<=999999999)(e:Am n=Am m):n=m:=by
 obtain⟨k,rfl⟩:∃k:Nat,n=k:=⟨n.toNat,by omega⟩
 obtain⟨j,rfl⟩:∃j:Nat,m=j:=⟨m.toNat,by omega⟩
 have:=LZ Zo Zo Zo Zo e
 omega
theorem N3 {s:ByteArray}{ns:List Int}(h:Cs pl s=true)(hne:∀m∈ns,s≠Am m):Cs (Ed pl ns) s=true:=by
 obtain⟨f,hf,rfl⟩:=Bg.1 h
 refine Bg.2 ⟨f,List.mem_filter.2 ⟨hf,?_⟩,rfl⟩
 simp only[AaO,List.any_eq_false,decide_eq_true_eq]
 exact fun m hm e=>hne m hm e
end
structure IZ (l:List Int):Prop where
 rise:l.Pairwise (·<·)
 low:∀n∈l,1<=n∧n<=999999999
theorem Wo {room:Int}{pl:List PF}(h:BV room pl):IZ (AQ pl):=⟨HQ h.nodup,fun n hn=>by have:=CF.1 hn;exact⟨this.1,this.2.1⟩⟩
theorem IZ.lt {l:List Int}(h:IZ l){i j:Nat}{n m:Int}(hi:l[i]? =some n)(hj:l[j]? =some m)(hij:i<j):n<m:=by
 obtain⟨h1,rfl⟩:=List.getElem?_eq_some_iff.1 hi
 obtain⟨h2,rfl⟩:=List.getElem?_eq_some_iff.1 hj
 exact List.pairwise_iff_getElem.1 h.rise i j h1 h2 hij
theorem IZ.ne {l:List Int}(h:IZ l){i j:Nat}{n m:Int}(hi:l[i]? =some n)(hj:l[j]? =some m)(hij:i<j):Am m≠Am n:=fun e=>by
 have h1:=h.low n (Aan hi)
 have h2:=h.low m (Aan hj)
 have h3:=h.lt hi hj hij
 have:=G3 h1.1 h1.2 h2.1 h2.2 e.symm
 omega
theorem Ij {l:List Int}{j:Nat}{m:Int}(h:l[j]? =some m):l.drop j=m::l.drop (j+1):=by
 obtain⟨h1,rfl⟩:=List.getElem?_eq_some_iff.1 h
 exact AbC h1
theorem Sh {pl:List PF}(h:(AQ pl).length=0):Bj pl=0:=by rw[Bj,AaK h];rfl
theorem Wp {pl:List PF}{x:Int}(h:(AQ pl)[(AQ pl).length-1]? =some x):Bj pl=x:=by rw[Bj,Acg,h];rfl
theorem N4 {room : Int} {pl : List PF} (h : BV room pl) (s : ByteArray) : CY pl s <= 16777216 := by
  rw [CY]
  cases hl : Ci pl s with
  | none => simp
  | some f =>
    have h1 := LL (Kj hl).1
    have h2 := h.used
    have h3 := h.room.2
    simp only [AaH, AbG]
    omega
attribute [local irreducible] X
theorem XJ (b d:Nat)(F:Nat->Prop)(room:Int)(pl:List PF)(w:World)(hb:AB w b [jp d] 161)(hD:AG w d F room pl)(hbd:¬F b)(hL:A2 w):
  Calls prog 91 #[jp b] w (AN (fun v w'=>v= .int .i64 (Bj pl)∧Ap w w')):=by
 have hLs:=hL.size;have hok:=hD.ok;have hlen:=hok.len;have hsl:=E1 pl;refine Ac (n:=15) func91 rfl rfl rfl ?_;refine jG ?_;refine jR<|jC (Ub _ _ _ _ _ _ hb hD hbd hL) ?_;rintro _ a3 ⟨a4,a5,rfl,a1,a2,a0⟩;clear a2;have K0:=(a0:Ap w _);refine jG ?_;replace hb:=hb.ext a0;replace hD:=hD.ext a0;replace hL:=hL.ext a0;refine jF ?_ ?_
 ·intro hc8
  refine jG ?_;refine jJ func91 ?_;exact⟨_,rfl,by rw[Sh Zo],K0⟩
 ·intro hc8
  refine jG ?_;refine jV (Az (c:=(((AQ pl).length-1:Nat):Int)) (BT rfl rfl Zo Zo) Zo) ?_;obtain⟨a6,a7,x,hx,a8,a9⟩:=a1.sl.el (i:=(AQ pl).length-1) Zl;refine jG ?_;refine jJ func91 ?_;exact⟨_,rfl,by rw[Wp hx],K0⟩
theorem Wq (a:Option Addr)(xs:List UInt8)(c:Nat)(w:World)(hs:Uc w a xs)(hl:xs.length<=1073741824):
  Calls prog 177 #[.slice a xs.length c] w (AN (fun v w'=>∃a' c',∃rs:List RB,v= .tuple #[.slice a' (rs.map RB.h).length c',.int .i64 ((xs.length-(AR xs).2.length:Nat):Int)]∧Af w' 98 a' c' (rs.map RB.h)∧BJ w' rs∧rs.map RB.b=(AR xs).1∧(∀q,own a' q->w.heap.size<=q)∧(∀q,Bi rs q->w.heap.size<=q)∧(∀q,own a' q->¬Bi rs q)∧Ap w w')):=by
 refine Ac (n:=32) func177 rfl rfl rfl ?_;have hR:BJ w ([]:List RB):=BJ.nil w;refine jG ?_;refine Ai.loop (ι:=List UInt8) (fun lf ρ' w'=>∃rs:List RB,∃ao:Option Addr,∃co:Nat,∃al:Option Addr,∃cl:Nat,Holds ρ' [(0,.slice a xs.length c),(4,.slice ao ((rs.map RB.h).length) co),(5,.slice al lf.length cl)]∧Ap w w'∧(BJ w' rs)∧(Uc w' al lf)∧(Af w' 98 ao co (rs.map RB.h))∧(∀q_,Bi rs q_->¬own al q_)∧(∀q_,Bi rs q_->¬own ao q_)∧(∀q_,Bi rs q_->w.heap.size<=q_)∧(∀q_,own ao q_->¬own al q_)∧(∀q_,own ao q_->w.heap.size<=q_)∧(rs.length+lf.length<=xs.length)∧(lf.length<=xs.length)∧(rs.map RB.b++(AR lf).1=(AR xs).1)∧((AR xs).2=(AR lf).2)) (fun lf=>lf.length) xs ?_ ?_
 ·have au:=Af.nil (α:=SH) w 98
  refine⟨[],_,_,_,_,⟨rfl,rfl,rfl,trivial⟩,(Ad.refl _ w),hR,hs,au,(fun q_ ⟨_,h_,_⟩ _=>absurd h_ Zs),(fun q_ h1 h2=>(fun q_ h1 _=>Ae q_ h1) q_ h2 h1),(fun q_ ⟨_,h_,_⟩=>absurd h_ Zs),(fun q_ h1 _=>Ae q_ h1),(fun q_ h1=>absurd h1 (Ae q_)),?_,?_,?_,?_⟩
  ·exact Nat.le_of_eq (Aaq _)
  ·exact Aac _
  ·rfl
  ·rfl
 clear hs hR;rintro lf aN aO ⟨rs,ao,co,al,cl,ai,K0,a0,av,a4,aP,ab,af,aQ,ac,hrs,hll,hFr,hFr2⟩ ih1;obtain⟨ρ₀,rfl⟩:=ai.ex;clear ai;refine jG ?_;refine jF ?_ ?_
 ·intro hc12
  refine jG ?_;refine jR<|jC (T5 _ _ _ _ av.sl Zo) ?_;rintro _ aR a8;rcases a8 with a8|a8
  ·obtain⟨a2,aw,a1,a3,ad,aS,aj,rfl,a5,a6,ax,ak,am,ag⟩:=a8
   have an:=Ah ak a4.oL;have ay:=Bd K0.size ak;have az:=Ah am a0.oL;have ap:=Ah am a4.oL;refine jG ?_;refine Ai.condF rfl ?_;have hrl:(rs.map RB.h).length=rs.length:=Aad ..;refine jG ?_;refine jR<|AA.buildSlice ([⟨a1,a2.length,a3⟩]:List SH) underlying130 ty98 rfl rfl Ze ?_;intro aT aU aA aB a9;clear aA;replace a4:=(a4.ext ag).ext a9;refine jR<|AA.append (xs:=rs.map RB.h) (ys:=([⟨a1,a2.length,a3⟩]:List SH)) underlying130 ty98 rfl rfl rfl a4 aB.sl Zr Zd ?_;intro a7 aV aC aq ae aa aD;replace a0:=(a0.ext ag).ext a9;have aE:∀q_,own a7 q_->¬Bi rs q_:=aa.apart (Zf ab) a0.oL;replace a5:=a5.ext a9;have aF:∀q_,own a7 q_->¬own a1 q_:=aa.apart (Zf an) a5.oL;replace a6:=a6.ext a9;have aG:∀q_,own a7 q_->¬own ad q_:=aa.apart (Zf ap) a6.oL;replace K0:=(K0.ext ag).ext a9;have aH:∀q_,own a7 q_->w.heap.size<=q_:=aa.ge ac K0.size;clear aa;clear aD;have eRR:(rs.map RB.h)++([⟨a1,a2.length,a3⟩]:List SH)=(rs++([⟨a1,a3,a2⟩]:List RB)).map RB.h:=by rw[Aam];rfl
   rw[eRR]at aq⊢;replace a0:=a0.kO ae ab;replace a5:=a5.kO ae an;have hR':BJ aC (rs++([⟨a1,a3,a2⟩]:List RB)):=BJ.snoc a0 a5;have aI:∀q_,Bi (rs++([⟨a1,a3,a2⟩]:List RB)) q_->¬own ad q_:=fun q_ x_ z_=>(HR _ x_).elim (fun y_=>ax q_ y_ z_) (fun y_=>(fun y_=>(Zf az) q_ y_ z_) y_);have aJ:∀q_,Bi (rs++([⟨a1,a3,a2⟩]:List RB)) q_->¬own a7 q_:=fun q_ x_ z_=>(HR _ x_).elim (fun y_=>(Zf aF) q_ y_ z_) (fun y_=>(fun y_=>(Zf aE) q_ y_ z_) y_);have aK:∀q_,Bi (rs++([⟨a1,a3,a2⟩]:List RB)) q_->w.heap.size<=q_:=fun q_ x_=>(HR _ x_).elim (fun y_=>ay q_ y_) (fun y_=>(fun y_=>af q_ y_) y_);replace a6:=a6.kO ae ap;have hLf:=Af.slo a6;have aL:∀q_,own ad q_->¬own a7 q_:=fun q_ x_ z_=>(fun y_=>(Zf aG) q_ y_ z_) ((fun q_ h_=>h_) _ x_);have aM:∀q_,own ad q_->¬Bi (rs++([⟨a1,a3,a2⟩]:List RB)) q_:=fun q_ x_ z_=>(fun y_=>(Zf aI) q_ y_ z_) ((fun q_ h_=>h_) _ x_);refine jG ?_;have hU2:=Gy (Dv Zo) aj;have hUl:=Kz aj;refine ih1 aw _ _ ?_ Zo;replace K0:=K0.new ae ac;refine⟨rs++([⟨a1,a3,a2⟩]:List RB),_,_,_,_,⟨rfl,rfl,rfl,trivial⟩,K0,hR',hLf,aq,(Zf aM),aJ,aK,(Zf aL),aH,?_,?_,?_,?_⟩
   ·simp only[Aab,Aaj,Aar];omega
   ·omega
   ·rw[Aam,Aap,<-hFr,hU2];rfl
   ·rw[hFr2,hU2]
  ·obtain⟨aW,ar,rfl,ah⟩:=a8
   have hne:=NV ar;refine jG ?_;replace a0:=a0.ext ah;replace a4:=a4.ext ah;replace K0:=K0.ext ah;refine jF ?_ ?_
   ·intro hc20
    refine jG ?_;refine jV (Az (c:=((xs.length-lf.length:Nat):Int)) (BT rfl rfl Zo Zo) Zo) ?_;refine jG ?_;refine jK func177 ?_;have hE:=G2 (Dv Zo) ar;rw[hE]at hFr hFr2;simp only[Aaw]at hFr;exact⟨_,rfl,ao,co,rs,by rw[hFr2],a4,a0,hFr,ac,af,(Zf ab),K0⟩
   ·intro hc20
    exact absurd hc20 hne
 ·intro hc12
  refine jG ?_;refine jV (Az (c:=((xs.length-lf.length:Nat):Int)) (BT rfl rfl Zo Zo) Zo) ?_;refine jG ?_;refine jK func177 ?_;have hlf:lf=[]:=AaK Zo;have hE:AR lf=([],lf):=by rw[hlf];exact framesR_nil
  rw[hE]at hFr hFr2;simp only[Aaw]at hFr;exact⟨_,rfl,ao,co,rs,by rw[hFr2],a4,a0,hFr,ac,af,(Zf ab),K0⟩
end Go.Proofs.YtjkaicjmfgekjaaGreatDoor
namespace Go.Proofs.YtjkaicjmfgekjaaGreatDoor
open Go.Proofs.Tryz
attribute [local irreducible] RD RS AA RL RA RT Cz Ai crcN CH Cx F8 B1 leL CM Am AQ DY D7 EO Ff DH
theorem QX {room:Int}{pl:List PF}{bs:List UInt8}{n:Int}{r:List Int}(h:bs=[]):Gb room pl bs n r=(0,Ed (Bp pl (Am n)) r):=by rw[Gb,if_pos h]
theorem N5 {room:Int}{pl:List PF}{bs:List UInt8}{n:Int}{r:List Int}(h:bs≠ [])(h2:(C6 room pl bs n).1=0):Gb room pl bs n r=(0,Ed (C6 room pl bs n).2 r):=by rw[Gb,if_neg h,if_pos h2]
theorem Wr {room:Int}{pl:List PF}{bs:List UInt8}{n:Int}{r:List Int}(h:bs≠ [])(h2:(C6 room pl bs n).1≠0):Gb room pl bs n r=C6 room pl bs n:=by rw[Gb,if_neg h,if_neg h2]
theorem A7 {w:World}{F F':Nat->Prop}(h:∀q,F' q->q<w.heap.size->F q):AL w F F':=LQ h
attribute [local irreducible] X
theorem Z0 (b d:Nat)(F:Nat->Prop)(room:Int)(pl:List PF)(a:Option Addr)(xs:List UInt8)(c:Nat)(n:Int)(w:World)(hb:AB w b [jp d] 161)(hD:AG w d F room pl)(hbd:¬F b)(hL:A2 w)(hFG:∀q,F q->7<=q)(hs:Av w a xs)(hdis:∀x,a=some x->¬F x.block)(hl:xs.length<=1073741824):
  Calls prog 124 #[jp b,.slice a xs.length c,.int .i64 n] w (AN (FE d F room w (C6 room pl xs n).1 (C6 room pl xs n).2)):=by
 have hLs:=hL.size;have hnm:=BY n;have hfs:freshN.size=7:=rfl;refine Ac (n:=31) func124 rfl rfl rfl ?_;refine jG ?_;refine jR<|jC (JL hD freshN _ _ _ (by first|omega|decide) hs Za (by first|omega|decide)) ?_;rintro _ al ⟨a0,rfl,ac,a1,a7⟩;have ad:¬a0 b:=a1.not hbd hb.lt;have a8:∀q_,a0 q_->q_<w.heap.size->F q_:=a1.inS (fun q_ h_ _=>h_) (Aac _);have ae:∀q_,a0 q_->7<=q_:=fun q_ h_=>(a1 q_ h_).elim (hFG q_) (fun h2_=>Aaa hLs (Aaa (Aac _) h2_));have K0:=(Ad.refl F w).trans a7 (fun x hlt hx=>(fun q_ h_ _=>h_) x hx hlt);clear a1;refine jG ?_;replace hb:=hb.keep a7 hbd;replace hL:=hL.keep a7 hFG;refine jF ?_ ?_
 ·intro hc15
  refine jG ?_;refine jR<|jC (NR ac freshN (by first|omega|decide)) ?_;rintro _ am ⟨a2,rfl,a3,a4,a9⟩;have ah:¬a2 b:=a4.not ad hb.lt;have aa:∀q_,a2 q_->q_<w.heap.size->F q_:=a4.inS a8 K0.size;have ai:∀q_,a2 q_->7<=q_:=fun q_ h_=>(a4 q_ h_).elim (ae q_) (fun h2_=>Aaa hLs (Aaa K0.size h2_));replace K0:=K0.trans a9 (fun x hlt hx=>a8 x hx hlt);clear a4;refine jG ?_;replace hb:=hb.keep a9 ad;replace hL:=hL.keep a9 ae;refine jF ?_ ?_
  ·intro hc22
   skip
   refine Ai.drawS [] [0,1,2,1003,4,2005,2006,7] ?_;intro an a5;replace hb:=hb.ext a5;refine jM (jb hb Jn) ?_;refine jG ?_;replace hL:=hL.ext a5;refine jU rfl<|jC (CI n _ hL) ?_;rintro _ ao ⟨rfl,a6⟩;replace hb:=hb.ext a6;refine jG ?_;replace a3:=(a3.ext a5).ext a6;refine jU rfl<|jC (V6 a3 freshN (Am n) (by first|omega|decide) (by first|omega|decide)) ?_;rintro _ ap ⟨af,rfl,aj,ag,ab⟩;replace K0:=(K0.ext a5).ext a6;have ak:∀q_,af q_->q_<w.heap.size->F q_:=ag.inS aa K0.size;replace K0:=K0.trans ab (fun x hlt hx=>aa x hx hlt);clear ag;replace hb:=hb.keep ab ah;refine jG ?_;refine jJ func124 ?_;have hEq:C6 room pl xs n=(ET (Cd (Df room pl freshN xs) freshN) freshN (Am n),Hy (Cd (Df room pl freshN xs) freshN) freshN (Am n)):=by rw[C6,if_pos hc15,if_pos hc22]
   rw[hEq];replace hL:=(hL.ext a6).keep ab ai;exact⟨_,rfl,af,rfl,aj,A7 ak,K0⟩
  ·intro hc22
   skip
   refine jG ?_;refine jJ func124 ?_;have hEq:C6 room pl xs n=(CL (Df room pl freshN xs) freshN,Cd (Df room pl freshN xs) freshN):=by rw[C6,if_pos hc15,if_neg hc22]
   rw[hEq];exact⟨_,rfl,a2,rfl,a3,A7 aa,K0⟩
 ·intro hc15
  refine jG ?_;refine jF ?_ ?_
  ·intro hc22
   exact absurd hc22 hc15
  ·intro hc22
   skip
   refine jG ?_;refine jJ func124 ?_;have hEq:C6 room pl xs n=(De room pl freshN xs,Df room pl freshN xs):=by rw[C6,if_neg hc15]
   rw[hEq];exact⟨_,rfl,a0,rfl,ac,A7 a8,K0⟩
theorem Z1 (b d:Nat)(F:Nat->Prop)(room:Int)(pl:List PF)(a:Option Addr)(xs:List UInt8)(c:Nat)(a2:Option Addr)(ls:List Int)(c2:Nat)(i:Nat)(n:Int)(w:World)(hb:AB w b [jp d] 161)(hD:AG w d F room pl)(hbd:¬F b)(hL:A2 w)(hFG:∀q,F q->7<=q)(hs:Av w a xs)(hdis:∀x,a=some x->¬F x.block)(hl:xs.length<=1073741824)(hs2:Av w a2 ls)(hdis2:∀x,a2=some x->¬F x.block)(hl2:ls.length<=4294967295)(hok:IZ ls)(hall:∀m∈ls,Cs pl (Am m)=true)(hx:ls[i]? =some n):
  Calls prog 178 #[jp b,.slice a xs.length c,.slice a2 ls.length c2,.int .i64 ((i:Nat):Int)] w (AN (FE d F room w (Gb room pl xs n (ls.drop (i+1))).1 (Gb room pl xs n (ls.drop (i+1))).2)):=by
 have hLs:=hL.size;have hil:i<ls.length:=(List.getElem?_eq_some_iff.1 hx).1;have hnm:=BY n;refine Ac (n:=54) func178 rfl rfl rfl ?_;refine jG ?_;refine jF ?_ ?_
 ·intro hc13
  obtain⟨b1,b2,aE,aF,av,a0⟩:=hs2.eo i;have hc_6_lt:=a0.lt;obtain rfl:n=aE:=Option.some.inj (hx.symm.trans aF);refine Ai.drawS [] [0,1,2,1003,4,5,6,1007,2008,2009,10] ?_;intro b3 a4;have K0:=(a4:Ap w _).to (S:=F);replace hb:=hb.ext a4;replace a0:=a0.ext a4;refine jM (jb hb (jl a0 Jn)) ?_;refine H7 ?_;refine Em ?_;refine jP ?_ (hx:=by exact fun _=>(AS underlying185 ty3 rfl rfl av Zl));refine jG ?_;replace hL:=hL.ext a4;refine jU rfl<|jC (CI n _ hL) ?_;rintro _ b4 ⟨rfl,a5⟩;replace hb:=hb.ext a5;replace a0:=a0.ext a5;refine jG ?_;replace hD:=(hD.ext a4).ext a5;refine jU rfl<|jC (EE (JM hD (Am n) (by first|omega|decide)) (Ee (Dp (hok.low n (Aan hx)).1 (hok.low n (Aan hx)).2) (hall n (Aan hx))) rfl) ?_;rintro _ b5 ⟨am,rfl,aw,aa,ab⟩;have aG:¬am b:=aa.not hbd hb.lt;replace K0:=K0.ext a5;have aH:∀q_,am q_->q_<w.heap.size->F q_:=aa.inS (fun q_ h_ _=>h_) K0.size;have aI:∀q_,am q_->7<=q_:=fun q_ h_=>(aa q_ h_).elim (hFG q_) (fun h2_=>Aaa hLs (Aaa K0.size h2_));replace K0:=K0.trans ab (fun x hlt hx=>(fun q_ h_ _=>h_) x hx hlt);clear aa;replace hb:=hb.keep ab hbd;replace a0:=a0.keep ab (fun h=>hdis2 _ av ((fun q_ h_ _=>h_) _ h hc_6_lt));refine jG ?_;refine jV (Az (c:=((ls.length-1:Nat):Int)) (BT rfl rfl Zo Zo) Zo) ?_;refine jG ?_;replace hL:=(hL.ext a5).keep ab hFG;refine Ai.loop (ι:=Nat) (fun k ρ' w'=>∃Fk:Nat->Prop,Holds ρ' [(0,jp b),(2,.slice a2 ls.length c2),(3,.int .i64 ((i:Nat):Int)),(9,.int .i64 0),(10,.int .i64 ((k:Nat):Int))]∧Ad F w w'∧(AB w' b [jp d] 161)∧(A2 w')∧(AG w' d Fk room (Ed (Bp pl (Am n)) (ls.drop (k+1))))∧(¬Fk b)∧(∀q_,Fk q_->q_<w.heap.size->F q_)∧(∀q_,Fk q_->7<=q_)∧(i<=k)∧(k<ls.length)) (fun k=>k) (ls.length-1) ?_ ?_
  ·rw[show Ed (Bp pl (Am n)) (ls.drop (ls.length-1+1))=(Bp pl (Am n))by rw[AaY Zo,Hj]]
   refine⟨_,⟨rfl,rfl,rfl,rfl,rfl,trivial⟩,K0,hb,hL,aw,aG,aH,aI,?_,?_⟩
   ·omega
   ·omega
  clear hb aw;clear K0;rintro k b6 b7 ⟨Fk,ax,K0,hb,hL,ac,ay,ad,az,hik,hkl⟩ ih1;obtain⟨ρ₀,rfl⟩:=ax.ex;clear ax;refine H7 ?_;refine FW ?_;refine jW ?_ (hx:=by exact fun hg=>(DN (H2 (BR hg) rfl) Zd));refine jV (Be rfl rfl rfl) ?_;refine jG ?_;refine jF ?_ ?_
  ·intro hc40
   obtain⟨m,hm⟩:∃m,ls[k]? =some m:=⟨_,List.getElem?_eq_getElem hkl⟩
   have hhas:=N3 (pl:=(Bp pl (Am n))) (ns:=ls.drop (k+1)) (MU (hall m (Aan hm)) (hok.ne hx hm Zo)) (fun j hj=>by
    obtain⟨q,hq⟩:=Abn hj;rw[Abs]at hq;exact fun e=>hok.ne hm hq Zo e.symm)
   refine jG ?_;have hnm:=BY m;obtain⟨b8,b9,aJ,aK,an,a1⟩:=hs2.eo k;have hc_31_lt:=a1.lt;obtain rfl:m=aJ:=Option.some.inj (hm.symm.trans aK);refine Ai.drawS [] [0,1,2,1003,4,5,6,1007,2008,2009,10] ?_;intro ba a6;replace a1:=(a1.keep K0 (hdis2 _ an)).ext a6;replace hb:=hb.ext a6;refine jM (jb hb (jl a1 Jn)) ?_;refine H7 ?_;refine Em ?_;refine jP ?_ (hx:=by exact fun _=>(AS underlying185 ty3 rfl rfl an Zl));refine jG ?_;replace hL:=hL.ext a6;refine jU rfl<|jC (CI m _ hL) ?_;rintro _ bb ⟨rfl,a7⟩;replace hb:=hb.ext a7;replace a1:=a1.ext a7;refine jG ?_;replace ac:=(ac.ext a6).ext a7;refine jU rfl<|jC (EE (JM ac (Am m) (by first|omega|decide)) (Ee (Dp (hok.low m (Aan hm)).1 (hok.low m (Aan hm)).2) hhas) rfl) ?_;rintro _ bc ⟨ao,rfl,aL,ae,af⟩;have aM:¬ao b:=ae.not ay hb.lt;replace K0:=(K0.ext a6).ext a7;have aN:∀q_,ao q_->q_<w.heap.size->F q_:=ae.inS ad K0.size;have aO:∀q_,ao q_->7<=q_:=fun q_ h_=>(ae q_ h_).elim (az q_) (fun h2_=>Aaa hLs (Aaa K0.size h2_));replace K0:=K0.trans af (fun x hlt hx=>ad x hx hlt);clear ae;replace hb:=hb.keep af ay;replace a1:=a1.keep af (fun h=>hdis2 _ an (ad _ h hc_31_lt));refine jG ?_;refine jV (Az (c:=((k-1:Nat):Int)) (BT rfl rfl Zo Zo) Zo) ?_;refine jG ?_;have e:Ed (Bp pl (Am n)) (ls.drop (k-1+1))=Bp (Ed (Bp pl (Am n)) (ls.drop (k+1))) (Am m):=by rw[show k-1+1=k by omega,Ij hm,KE]
   refine ih1 (k-1) _ _ ?_ Zo;rw[e];replace hL:=(hL.ext a7).keep af az;refine⟨_,⟨rfl,rfl,rfl,rfl,rfl,trivial⟩,K0,hb,hL,aL,aM,aN,aO,?_,?_⟩
   ·omega
   ·omega
  ·intro hc40
   skip
   refine jG ?_;refine jJ func178 ?_;have hki:k=i:=by simp at hc40;omega
   subst hki;have hEq:Gb room pl xs n (ls.drop (k+1))=_:=QX (AaK Zo);rw[hEq];exact⟨_,rfl,Fk,rfl,ac,A7 ad,K0⟩
 ·intro hc13
  refine H7 ?_;obtain⟨be,bg,aP,aQ,aR,aS⟩:=hs2.eo i;have hc_47_lt:=aS.lt;obtain rfl:n=aP:=Option.some.inj (hx.symm.trans aQ);refine jV (AS underlying185 ty3 rfl rfl aR Zl) ?_;refine jG ?_;refine jR<|jC (Z0 _ _ _ _ _ _ xs _ n _ hb hD hbd hL hFG hs Za Zo) ?_;rintro _ bh ⟨ag,rfl,ap,ah,aq⟩;have aT:¬ag b:=ah.not hbd hb.lt;have aA:∀q_,ag q_->q_<w.heap.size->F q_:=ah.inS (fun q_ h_ _=>h_) (Aac _);have aU:∀q_,ag q_->7<=q_:=fun q_ h_=>(ah q_ h_).elim (hFG q_) (fun h2_=>Aaa hLs (Aaa (Aac _) h2_));have K0:=(Ad.refl F w).trans aq (fun x hlt hx=>(fun q_ h_ _=>h_) x hx hlt);clear ah;refine FW ?_;replace hb:=hb.keep aq hbd;replace hL:=hL.keep aq hFG;by_cases hse:(C6 room pl xs n).1=0
  ·rw[hse]
   refine jG ?_;refine jV (Az (c:=((ls.length-1:Nat):Int)) (BT rfl rfl Zo Zo) Zo) ?_;refine jG ?_;refine Ai.loop (ι:=Nat) (fun k ρ' w'=>∃Fk:Nat->Prop,Holds ρ' [(0,jp b),(2,.slice a2 ls.length c2),(3,.int .i64 ((i:Nat):Int)),(9,.int .i64 0),(10,.int .i64 ((k:Nat):Int))]∧Ad F w w'∧(AB w' b [jp d] 161)∧(A2 w')∧(AG w' d Fk room (Ed (C6 room pl xs n).2 (ls.drop (k+1))))∧(¬Fk b)∧(∀q_,Fk q_->q_<w.heap.size->F q_)∧(∀q_,Fk q_->7<=q_)∧(i<=k)∧(k<ls.length)) (fun k=>k) (ls.length-1) ?_ ?_
   ·rw[show Ed (C6 room pl xs n).2 (ls.drop (ls.length-1+1))=(C6 room pl xs n).2 by rw[AaY Zo,Hj]]
    refine⟨_,⟨rfl,rfl,rfl,rfl,rfl,trivial⟩,K0,hb,hL,ap,aT,aA,aU,?_,?_⟩
    ·omega
    ·omega
   clear hb ap;clear K0;rintro k bi bj ⟨Fk,aB,K0,hb,hL,ai,aC,aj,aD,hik,hkl⟩ ih2;obtain⟨ρ₀,rfl⟩:=aB.ex;clear aB;refine H7 ?_;refine FW ?_;refine jW ?_ (hx:=by exact fun hg=>(DN (H2 (BR hg) rfl) Zd));refine jV (Be rfl rfl rfl) ?_;refine jG ?_;refine jF ?_ ?_
   ·intro hc40
    obtain⟨m,hm⟩:∃m,ls[k]? =some m:=⟨_,List.getElem?_eq_getElem hkl⟩
    have hhas:=N3 (pl:=(C6 room pl xs n).2) (ns:=ls.drop (k+1)) (Ud (hall m (Aan hm)) (L1 m) (hok.ne hx hm Zo)) (fun j hj=>by
     obtain⟨q,hq⟩:=Abn hj;rw[Abs]at hq;exact fun e=>hok.ne hm hq Zo e.symm)
    refine jG ?_;have hnm:=BY m;obtain⟨bk,bl,aV,aW,ar,a3⟩:=hs2.eo k;have hc_70_lt:=a3.lt;obtain rfl:m=aV:=Option.some.inj (hm.symm.trans aW);refine Ai.drawS [] [0,1,2,1003,4,5,6,1007,2008,2009,10] ?_;intro bm a8;replace a3:=(a3.keep K0 (hdis2 _ ar)).ext a8;replace hb:=hb.ext a8;refine jM (jb hb (jl a3 Jn)) ?_;refine H7 ?_;refine Em ?_;refine jP ?_ (hx:=by exact fun _=>(AS underlying185 ty3 rfl rfl ar Zl));refine jG ?_;replace hL:=hL.ext a8;refine jU rfl<|jC (CI m _ hL) ?_;rintro _ bn ⟨rfl,a9⟩;replace hb:=hb.ext a9;replace a3:=a3.ext a9;refine jG ?_;replace ai:=(ai.ext a8).ext a9;refine jU rfl<|jC (EE (JM ai (Am m) (by first|omega|decide)) (Ee (Dp (hok.low m (Aan hm)).1 (hok.low m (Aan hm)).2) hhas) rfl) ?_;rintro _ bo ⟨au,rfl,aX,ak,al⟩;have aY:¬au b:=ak.not aC hb.lt;replace K0:=(K0.ext a8).ext a9;have aZ:∀q_,au q_->q_<w.heap.size->F q_:=ak.inS aj K0.size;have b0:∀q_,au q_->7<=q_:=fun q_ h_=>(ak q_ h_).elim (aD q_) (fun h2_=>Aaa hLs (Aaa K0.size h2_));replace K0:=K0.trans al (fun x hlt hx=>aj x hx hlt);clear ak;replace hb:=hb.keep al aC;replace a3:=a3.keep al (fun h=>hdis2 _ ar (aj _ h hc_70_lt));refine jG ?_;refine jV (Az (c:=((k-1:Nat):Int)) (BT rfl rfl Zo Zo) Zo) ?_;refine jG ?_;have e:Ed (C6 room pl xs n).2 (ls.drop (k-1+1))=Bp (Ed (C6 room pl xs n).2 (ls.drop (k+1))) (Am m):=by rw[show k-1+1=k by omega,Ij hm,KE]
    refine ih2 (k-1) _ _ ?_ Zo;rw[e];replace hL:=(hL.ext a9).keep al aD;refine⟨_,⟨rfl,rfl,rfl,rfl,rfl,trivial⟩,K0,hb,hL,aX,aY,aZ,b0,?_,?_⟩
    ·omega
    ·omega
   ·intro hc40
    skip
    refine jG ?_;refine jJ func178 ?_;have hki:k=i:=by simp at hc40;omega
    subst hki;have hEq:Gb room pl xs n (ls.drop (k+1))=_:=N5 (Dv Zo) hse;rw[hEq];exact⟨_,rfl,Fk,rfl,ai,A7 aj,K0⟩
  ·refine jG ?_
   refine jV (Az (c:=((ls.length-1:Nat):Int)) (BT rfl rfl Zo Zo) Zo) ?_;refine jG ?_;refine Ai.unloop ?_;refine jG ?_;refine jV (Be rfl rfl rfl) ?_;refine jG ?_;refine jF ?_ ?_
   ·intro hc40
    exact absurd hc40.2 hse
   ·intro hc40
    skip
    refine jG ?_;refine jJ func178 ?_;have hEq:=Wr (room:=room) (pl:=pl) (n:=n) (r:=ls.drop (i+1)) (bs:=xs) (Dv Zo) hse;rw[hEq];exact⟨_,rfl,ag,rfl,ap,A7 aA,K0⟩
end Go.Proofs.YtjkaicjmfgekjaaGreatDoor
namespace Go.Proofs.YtjkaicjmfgekjaaGreatDoor
open Go.Proofs.Tryz
attribute [local irreducible] RD RS AA RL RA RT Cz Ai crcN CH Cx F8 B1 leL CM Am AQ DY D7 EO Ff DH
def Fh (acc:List (List UInt8))(p:List UInt8):List (List UInt8):=if p=[]then[]else acc++[p]
def CB (acc:List RB)(r:RB):List RB:=if r.b=[]then[]else acc++[r]
theorem stepH_map : ∀ (ss : List RB) (rs : List RB), (ss.foldl CB rs).map RB.b = (ss.map RB.b).foldl Fh (rs.map RB.b)
  | [], _ => rfl
  | r :: ss, rs => by
    rw [AaI, Aae, AaI, stepH_map ss]
    congr 1
    rw [CB, Fh]
    split
    · rfl
    · rw [Aam]; rfl
theorem stepH_mem : ∀ (ss : List RB) (rs : List RB), ∀ r ∈ ss.foldl CB rs, r ∈ rs ++ ss
  | [], rs, r, h => by simpa using h
  | x :: ss, rs, r, h => by
    rw [AaI] at h
    have := stepH_mem ss _ r h
    rcases List.mem_append.1 this with h2 | h2
    · rw [CB] at h2
      split at h2
      · cases h2
      · rcases List.mem_append.1 h2 with h3 | h3
        · exact AaM _ h3
        · simp only [Aah] at h3; subst h3; simp
    · simp [h2]
theorem KG {ss rs:List RB}{j:Nat}{r:RB}(h:ss[j]? =some r):(ss.take (j+1)).foldl CB rs=CB ((ss.take j).foldl CB rs) r:=by
 obtain⟨hj,rfl⟩:=List.getElem?_eq_some_iff.1 h
 rw[AaL hj,Abf];rfl
theorem stepH_len : ∀ (ss : List RB) (rs : List RB), (ss.foldl CB rs).length <= rs.length + ss.length
  | [], rs => Aac _
  | r :: ss, rs => by
    rw [AaI]
    have := stepH_len ss (CB rs r)
    have h2 : (CB rs r).length <= rs.length + 1 := by rw [CB]; split <;> simp
    simp only [Aaj]; omega
def Dk (room : Int) (pl : List PF) : List Int -> List (List UInt8) -> Int × List (List UInt8) × List PF
  | [], acc => (0, acc, pl)
  | n :: r, acc =>
    if (AR (AY pl (Am n))).2 = [] then Dk room pl r ((AR (AY pl (Am n))).1.foldl Fh acc)
    else if (Gb room pl ((AY pl (Am n)).take ((AY pl (Am n)).length - (AR (AY pl (Am n))).2.length)) n r).1 = 0
      then (0, (AR (AY pl (Am n))).1.foldl Fh acc, (Gb room pl ((AY pl (Am n)).take ((AY pl (Am n)).length - (AR (AY pl (Am n))).2.length)) n r).2)
      else ((Gb room pl ((AY pl (Am n)).take ((AY pl (Am n)).length - (AR (AY pl (Am n))).2.length)) n r).1, [], (Gb room pl ((AY pl (Am n)).take ((AY pl (Am n)).length - (AR (AY pl (Am n))).2.length)) n r).2)
section
variable {room :Int}{pl:List PF}{l:List Int}{i:Nat}{n:Int}{acc:List (List UInt8)}
theorem Ue (h:l[i]? =some n)(h2:(AR (AY pl (Am n))).2=[]):Dk room pl (l.drop i) acc=Dk room pl (l.drop (i+1)) ((AR (AY pl (Am n))).1.foldl Fh acc):=by rw[Ij h,Dk,if_pos h2]
theorem Si (h:l[i]? =some n)(h2:(AR (AY pl (Am n))).2≠ [])(h3:(Gb room pl ((AY pl (Am n)).take ((AY pl (Am n)).length-(AR (AY pl (Am n))).2.length)) n (l.drop (i+1))).1=0):
  Dk room pl (l.drop i) acc=(0,(AR (AY pl (Am n))).1.foldl Fh acc,(Gb room pl ((AY pl (Am n)).take ((AY pl (Am n)).length-(AR (AY pl (Am n))).2.length)) n (l.drop (i+1))).2):=by rw[Ij h,Dk,if_neg h2,if_pos h3]
theorem Sj (h:l[i]? =some n)(h2:(AR (AY pl (Am n))).2≠ [])(h3:(Gb room pl ((AY pl (Am n)).take ((AY pl (Am n)).length-(AR (AY pl (Am n))).2.length)) n (l.drop (i+1))).1≠0):
  Dk room pl (l.drop i) acc=((Gb room pl ((AY pl (Am n)).take ((AY pl (Am n)).length-(AR (AY pl (Am n))).2.length)) n (l.drop (i+1))).1,[],(Gb room pl ((AY pl (Am n)).take ((AY pl (Am n)).length-(AR (AY pl (Am n))).2.length)) n (l.drop (i+1))).2):=by rw[Ij h,Dk,if_neg h2,if_neg h3]
theorem Uf (h:BV room pl)(s:ByteArray):(AY pl s).length<=16777216:=by
 have e:(AY pl s).length=CY pl s:=by rw[AY,CY];cases Ci pl s<;>rfl
 rw[e];exact N4 h s
end
theorem Yn {w:World}{d:Nat}{F:Nat->Prop}{room:Int}{pl:List PF}(h:AG w d F room pl)(name:ByteArray)(hs:name.size<=4294967295)(he:CL pl name=0):Calls prog 176 #[jp d,.string name] w
  (AN fun v w'=>∃a' c',v= .tuple #[.slice a' (AY pl name).length c',.int .i64 0]∧Af w' 5 a' c' (AY pl name)∧(∀b,own a' b->w.heap.size<=b)∧Ap w w'):=he▸ZR h name hs
attribute [local irreducible] X
theorem Yo (b d:Nat)(F:Nat->Prop)(room:Int)(pl:List PF)(w:World)(hb:AB w b [jp d] 161)(hD:AG w d F room pl)(hbd:¬F b)(hL:A2 w)(hFG:∀q,F q->7<=q):
  Calls prog 113 #[jp b] w (AN (fun v w'=>∃F',AG w' d F' room (Dk room pl (AQ pl) []).2.2∧AL w F F'∧Ad F w w'∧(((Dk room pl (AQ pl) []).1=0∧∃a' c',∃rs:List RB,v= .tuple #[.slice a' (rs.map RB.h).length c',.int .i64 0]∧Af w' 98 a' c' (rs.map RB.h)∧BJ w' rs∧rs.map RB.b=(Dk room pl (AQ pl) []).2.1∧(∀q,own a' q->w.heap.size<=q)∧(∀q,Bi rs q->w.heap.size<=q)∧(∀q,own a' q->¬Bi rs q)∧(∀q,own a' q->¬F' q)∧(∀q,Bi rs q->¬F' q))∨((Dk room pl (AQ pl) []).1≠0∧v= .tuple #[.slice none 0 0,.int .i64 (Dk room pl (AQ pl) []).1])))):=by
 have hLs:=hL.size;have hok:=hD.ok;have hlen:=hok.len;have hsl:=E1 pl;refine Ac (n:=71) func113 rfl rfl rfl ?_;have hR:BJ w ([]:List RB):=BJ.nil w;refine jG ?_;refine jR<|jC (Ub _ _ _ _ _ _ hb hD hbd hL) ?_;rintro _ aS ⟨a2,ae,rfl,a0,ar,ah⟩;have aB:=Ah ar hD.oL;have aT:=Ah ar hR.oL;clear ar;have K0:=(ah:Ap w _).to (S:=F);refine jG ?_;replace hb:=hb.ext ah;replace hD:=hD.ext ah;replace hL:=hL.ext ah;replace hR:=hR.ext ah;refine Ai.loop (ι:=Nat) (fun i ρ' w'=>∃rs:List RB,∃ao:Option Addr,∃co:Nat,Holds ρ' [(0,jp b),(4,.slice ao ((rs.map RB.h).length) co),(5,.slice a2 ((AQ pl).length) ae),(16,.slice a2 ((AQ pl).length) ae),(17,.int .i64 (((AQ pl).length:Nat):Int)),(18,.int .i64 ((i:Nat):Int))]∧Ad F w w'∧(AB w' b [jp d] 161)∧(A2 w')∧(AG w' d F room pl)∧(Af w' 3 a2 ae (AQ pl))∧(BJ w' rs)∧(Af w' 98 ao co (rs.map RB.h))∧(¬Bi rs b)∧(∀q_,Bi rs q_->¬F q_)∧(∀q_,Bi rs q_->¬own a2 q_)∧(∀q_,Bi rs q_->¬own ao q_)∧(∀q_,Bi rs q_->q_<w.heap.size->F q_)∧(¬own ao b)∧(∀q_,own ao q_->¬F q_)∧(∀q_,own ao q_->¬own a2 q_)∧(∀q_,own ao q_->q_<w.heap.size->F q_)∧(∀q_,Bi rs q_->w.heap.size<=q_)∧(∀q_,own ao q_->w.heap.size<=q_)∧(i<=(AQ pl).length)∧(rs.length<=i*16777216)∧(Dk room pl (AQ pl) []=Dk room pl ((AQ pl).drop i) (rs.map RB.b))) (fun i=>(AQ pl).length-i) 0 ?_ ?_
 ·have aU:=Af.nil (α:=SH) aS 98
  refine⟨[],_,_,⟨rfl,rfl,rfl,rfl,rfl,rfl,trivial⟩,K0,hb,hL,hD,a0,hR,aU,(fun⟨_,h_,_⟩=>absurd h_ Zs),(fun q_ ⟨_,h_,_⟩ _=>absurd h_ Zs),(Zf aT),(fun q_ h1 h2=>(fun q_ h1 _=>Ae q_ h1) q_ h2 h1),(fun q_ ⟨_,h_,_⟩ _=>absurd h_ Zs),(Ae b),(fun q_ h1 _=>Ae q_ h1),(fun q_ h1 _=>Ae q_ h1),(fun q_ h1 _=>absurd h1 (Ae q_)),(fun q_ ⟨_,h_,_⟩=>absurd h_ Zs),(fun q_ h1=>absurd h1 (Ae q_)),?_,?_,?_⟩
  ·omega
  ·exact Aac _
  ·rfl
 clear hb hD hR a0;clear K0;rintro i bF bG ⟨rs,ao,co,aC,K0,hb,hL,hD,a0,al,a3,aV,aD,aW,aE,aX,aY,aF,aZ,b0,aG,aH,hi,hrl,hRP⟩ ih1;obtain⟨ρ₀,rfl⟩:=aC.ex;clear aC;refine jG ?_;refine jF ?_ ?_
 ·intro hc19
  obtain⟨bH,bI,n,hn,bJ,bK⟩:=a0.sl.eo i;refine jG ?_;have hnm:=BY n;have hbl:=Uf hok (Am n);refine Ai.drawS [] [0,1,2,1003,4,2005,2006,7,8,9,10,11] ?_;intro bL ab;replace hb:=hb.ext ab;refine jM (jb hb Jn) ?_;refine jG ?_;replace hL:=hL.ext ab;refine jU rfl<|jC (CI n _ hL) ?_;rintro _ bM ⟨rfl,ac⟩;replace hb:=hb.ext ac;refine jG ?_;replace hD:=(hD.ext ab).ext ac;refine jU rfl<|jC (Yn hD (Am n) (by first|omega|decide) (Ii (Aan hn))) ?_;rintro _ bN ⟨am,aI,rfl,a1,au,ad⟩;have b1:=Ah au hD.oL;replace a3:=(a3.ext ab).ext ac;have b2:=Ah au a3.oL;clear au;replace hb:=hb.ext ad;refine jG ?_;refine Ai.condF rfl ?_;refine jG ?_;refine jR<|jC (Wq _ _ _ _ (Af.slo a1) Zo) ?_;rintro _ b3 ⟨an,aJ,ss,rfl,a4,b4,b5,b6,af,bO,a8⟩;replace a3:=a3.ext ad;have b7:=Ah b6 a3.oL;have b8:=Aw af hb.lt;replace hD:=hD.ext ad;have b9:=Ah af hD.oL;replace a0:=((a0.ext ab).ext ac).ext ad;have ba:=Ah af a0.oL;have bb:=Ah af a3.oL;replace K0:=((K0.ext ab).ext ac).ext ad;have bc:∀q_,Bi ss q_->q_<w.heap.size->F q_:=Hx K0.size af;have be:=Bd K0.size af;have hmsX:=b5;replace al:=(((al.ext ab).ext ac).ext ad).ext a8;have hJ:BJ b3 (rs++ss):=BJ.app al b4;have bg:¬Bi (rs++ss) b:=fun x_=>(recs_case _ x_).elim aV (fun y_=>b8 y_);have bh:∀q_,Bi (rs++ss) q_->¬F q_:=fun q_ x_ z_=>(recs_case _ x_).elim (fun y_=>aD q_ y_ z_) (fun y_=>(fun y_=>b9 q_ y_ z_) y_);have bi:∀q_,Bi (rs++ss) q_->¬own a2 q_:=fun q_ x_ z_=>(recs_case _ x_).elim (fun y_=>aW q_ y_ z_) (fun y_=>(fun y_=>ba q_ y_ z_) y_);have bj:∀q_,Bi (rs++ss) q_->¬own ao q_:=fun q_ x_ z_=>(recs_case _ x_).elim (fun y_=>aE q_ y_ z_) (fun y_=>(fun y_=>bb q_ y_ z_) y_);have bk:∀q_,Bi (rs++ss) q_->q_<w.heap.size->F q_:=fun q_ x_ hl_=>(recs_case _ x_).elim (fun y_=>aX q_ y_ hl_) (fun y_=>(fun y_=>bc q_ y_ hl_) y_);have bl:∀q_,Bi (rs++ss) q_->w.heap.size<=q_:=fun q_ x_=>(recs_case _ x_).elim (fun y_=>aG q_ y_) (fun y_=>(fun y_=>be q_ y_) y_);have hrsl:(rs.map RB.h).length=rs.length:=Aad ..;have hssl:(ss.map RB.h).length=ss.length:=Aad ..;have hfl:=framesR_len (AY pl (Am n));have hssm:ss.length=(AR (AY pl (Am n))).1.length:=by rw[<-hmsX,Aad]
  refine jG ?_;replace hL:=((hL.ext ac).ext ad).ext a8;replace hb:=hb.ext a8;replace hD:=hD.ext a8;replace a0:=a0.ext a8;replace a3:=a3.ext a8;replace a1:=a1.ext a8;replace K0:=K0.ext a8;refine Ai.loop (ι:=Nat) (fun j ρ' w'=>∃aj:Option Addr,∃cj:Nat,Holds ρ' [(0,jp b),(4,.slice aj (((List.foldl CB rs (ss.take j)).map RB.h).length) cj),(5,.slice a2 ((AQ pl).length) ae),(6,.int .i64 ((i:Nat):Int)),(8,.slice am ((AY pl (Am n)).length) aI),(11,.int .i64 (((AY pl (Am n)).length-(AR (AY pl (Am n))).2.length:Nat):Int)),(16,.slice a2 ((AQ pl).length) ae),(17,.int .i64 (((AQ pl).length:Nat):Int)),(18,.int .i64 ((i:Nat):Int)),(19,.bool (decide (((i:Nat):Int)<(((AQ pl).length:Nat):Int)))),(41,.slice an ((ss.map RB.h).length) aJ),(42,.int .i64 (((ss.map RB.h).length:Nat):Int)),(43,.int .i64 ((j:Nat):Int))]∧Ad F w w'∧(AB w' b [jp d] 161)∧(A2 w')∧(AG w' d F room pl)∧(Af w' 3 a2 ae (AQ pl))∧(Af w' 5 am aI (AY pl (Am n)))∧(Af w' 98 an aJ (ss.map RB.h))∧(BJ w' (rs++ss))∧(Af w' 98 aj cj ((List.foldl CB rs (ss.take j)).map RB.h))∧(¬own aj b)∧(∀q_,own aj q_->¬F q_)∧(∀q_,own aj q_->¬own a2 q_)∧(∀q_,own aj q_->¬own am q_)∧(∀q_,own aj q_->¬own an q_)∧(∀q_,own aj q_->¬Bi (rs++ss) q_)∧(∀q_,own aj q_->q_<w.heap.size->F q_)∧(∀q_,own aj q_->w.heap.size<=q_)∧(j<=ss.length)) (fun j=>ss.length-j) 0 ?_ ?_
  ·refine⟨_,_,⟨rfl,rfl,rfl,rfl,rfl,rfl,rfl,rfl,rfl,rfl,rfl,rfl,rfl,trivial⟩,K0,hb,hL,hD,a0,a1,a4,hJ,a3,aY,aF,aZ,(Zf b2),(Zf b7),(Zf bj),b0,aH,?_⟩
   ·omega
  clear hb hD a0 a3 a1 a4 hJ;clear K0;rintro j bP av ⟨aj,cj,aK,K0,hb,hL,hD,a0,a1,a4,hJ,a5,aw,ai,ax,aL,aM,ay,az,ap,hj⟩ ih2;obtain⟨ρ₀,rfl⟩:=aK.ex;clear aK;refine jG ?_;refine jF ?_ ?_
  ·intro hc44
   obtain⟨bQ,bR,hh_,hh,bS,bT⟩:=a4.sl.eo j;obtain⟨r,hr,hre,hro⟩:=Wm (rs:=ss) (w:=av) (BJ.sub hJ (fun r hr=>AaP _ hr)) hh;subst hre;have hrl_:r.h.len=r.b.length:=rfl;refine jG ?_;refine jF ?_ ?_
   ·intro hc49
    refine jG ?_;refine jV (Az (c:=((j+1:Nat):Int)) (Au rfl rfl Zo Zo) rfl) ?_;refine jG ?_;have e:=(KG (rs:=rs) hr).trans (if_pos (show r.b=[]from AaK Zo));refine ih2 (j+1) _ _ ?_ Zo;rw[e];have bm:=Af.nil (α:=SH) av 98;refine⟨_,_,⟨rfl,rfl,rfl,rfl,rfl,rfl,rfl,rfl,rfl,rfl,rfl,rfl,rfl,trivial⟩,K0,hb,hL,hD,a0,a1,a4,hJ,bm,(Ae b),(fun q_ h1 _=>Ae q_ h1),(fun q_ h1 _=>Ae q_ h1),(fun q_ h1 _=>Ae q_ h1),(fun q_ h1 _=>Ae q_ h1),(fun q_ h1 _=>Ae q_ h1),(fun q_ h1 _=>absurd h1 (Ae q_)),(fun q_ h1=>absurd h1 (Ae q_)),?_⟩
    ·omega
   ·intro hc49
    have hfln:(List.foldl CB rs (ss.take j)).length<=rs.length+j:=by have:=stepH_len (ss.take j) rs;rw[List.length_take]at this;omega
    refine jG ?_;refine jR<|AA.buildSlice ([⟨r.a,r.b.length,r.c⟩]:List SH) underlying130 ty98 rfl rfl Ze ?_;intro bU bV bn bo a6;clear bn;replace a5:=a5.ext a6;refine jR<|AA.append (xs:=(List.foldl CB rs (ss.take j)).map RB.h) (ys:=([⟨r.a,r.b.length,r.c⟩]:List SH)) underlying130 ty98 rfl rfl rfl a5 bo.sl (by rw[Aad];simp only[Aaj,Aar];omega) Zd ?_;intro a9 bW bX aN aa a7 bp;replace hb:=hb.ext a6;have bq:¬own a9 b:=a7.not aw hb.lt;replace hD:=hD.ext a6;have bs:∀q_,own a9 q_->¬F q_:=a7.apart ai hD.oL;replace a0:=a0.ext a6;have bt:∀q_,own a9 q_->¬own a2 q_:=a7.apart ax a0.oL;replace a1:=a1.ext a6;have bu:∀q_,own a9 q_->¬own am q_:=a7.apart aL a1.oL;replace a4:=a4.ext a6;have bv:∀q_,own a9 q_->¬own an q_:=a7.apart aM a4.oL;replace hJ:=hJ.ext a6;have bw:∀q_,own a9 q_->¬Bi (rs++ss) q_:=a7.apart ay hJ.oL;replace K0:=K0.ext a6;have bx:∀q_,own a9 q_->q_<w.heap.size->F q_:=a7.inS az K0.size;have bz:∀q_,own a9 q_->w.heap.size<=q_:=a7.ge ap K0.size;replace K0:=K0.trans aa (fun x hlt hx=>az x hx hlt);clear a7;clear bp;have eRR:((List.foldl CB rs (ss.take j)).map RB.h)++([⟨r.a,r.b.length,r.c⟩]:List SH)=(List.foldl CB rs (ss.take (j+1))).map RB.h:=by rw[KG hr,CB,if_neg (Dv Zo),Aam];rfl
    rw[eRR]at aN⊢;refine jG ?_;refine jV (Az (c:=((j+1:Nat):Int)) (Au rfl rfl Zo Zo) rfl) ?_;refine jG ?_;refine ih2 (j+1) _ _ ?_ Zo;replace hL:=(hL.ext a6).keep aa (fun q_ hq_=>Aaa hLs (ap q_ hq_));replace hb:=hb.keep aa aw;replace hD:=hD.kO aa (Zf ai);replace a0:=a0.kO aa (Zf ax);replace a1:=a1.kO aa (Zf aL);replace a4:=a4.kO aa (Zf aM);replace hJ:=hJ.kO aa (Zf ay);refine⟨_,_,⟨rfl,rfl,rfl,rfl,rfl,rfl,rfl,rfl,rfl,rfl,rfl,rfl,rfl,trivial⟩,K0,hb,hL,hD,a0,a1,a4,hJ,aN,bq,bs,bt,bu,bv,bw,bx,bz,?_⟩
    ·omega
  ·intro hc44
   refine jG ?_;have hje:j=ss.length:=by omega
   subst hje;rw[Aas]at a5;have hR2:BJ av (List.foldl CB rs ss):=BJ.sub hJ (stepH_mem ss rs);have hRB:(List.foldl CB rs ss).map RB.b=(AR (AY pl (Am n))).1.foldl Fh (rs.map RB.b):=by rw[stepH_map,hmsX]
   have hfl2:=stepH_len ss rs;rw[show((List.foldl CB rs (ss.take ss.length)).map RB.h).length=((List.foldl CB rs ss).map RB.h).length by rw[Aas]];have bA:¬Bi (List.foldl CB rs ss) b:=fun x_=>bg (Ga (stepH_mem ss rs) _ x_);have aA:∀q_,Bi (List.foldl CB rs ss) q_->¬F q_:=fun q_ x_ z_=>(fun y_=>bh q_ y_ z_) (Ga (stepH_mem ss rs) _ x_);have bB:∀q_,Bi (List.foldl CB rs ss) q_->¬own a2 q_:=fun q_ x_ z_=>(fun y_=>bi q_ y_ z_) (Ga (stepH_mem ss rs) _ x_);have aO:∀q_,Bi (List.foldl CB rs ss) q_->¬own aj q_:=fun q_ x_ z_=>(fun y_=>(Zf ay) q_ y_ z_) (Ga (stepH_mem ss rs) _ x_);have bC:∀q_,Bi (List.foldl CB rs ss) q_->q_<w.heap.size->F q_:=fun q_ x_ hl_=>(fun y_=>bk q_ y_ hl_) (Ga (stepH_mem ss rs) _ x_);have aP:∀q_,Bi (List.foldl CB rs ss) q_->w.heap.size<=q_:=fun q_ x_=>(fun y_=>bl q_ y_) (Ga (stepH_mem ss rs) _ x_);refine jG ?_;refine jF ?_ ?_
   ·intro hc58
    have hcapb:=a1.le_cap;refine jG ?_;refine jV (HB (m':=((AY pl (Am n)).take ((AY pl (Am n)).length-(AR (AY pl (Am n))).2.length)).length) (BX underlying98 ty5 rfl rfl Zo) Zt) ?_;refine jG ?_;have hall:∀m∈AQ pl,Cs pl (Am m)=true:=fun m hm=>(CF.1 hm).2.2;refine jR<|jC (Z1 _ _ _ _ _ _ ((AY pl (Am n)).take ((AY pl (Am n)).length-(AR (AY pl (Am n))).2.length)) _ _ (AQ pl) _ i n _ hb hD hbd hL hFG (a1.sl.take ((AY pl (Am n)).length-(AR (AY pl (Am n))).2.length)) (fun x_ hx_=>b1 _ ⟨x_,hx_,rfl⟩) Zt a0.sl (fun x_ hx_=>aB _ ⟨x_,hx_,rfl⟩) Zo (Wo hok) hall hn) ?_;rintro _ bY ⟨ak,rfl,aQ,aq,ag⟩;have bD:∀q_,ak q_->¬own aj q_:=aq.apart (Zf ai) a5.oL;have bE:∀q_,ak q_->¬Bi (List.foldl CB rs ss) q_:=aq.apart (Zf aA) hR2.oL;have aR:∀q_,ak q_->q_<w.heap.size->F q_:=aq.inS (fun q_ h_ _=>h_) K0.size;replace K0:=K0.trans ag (fun x hlt hx=>(fun q_ h_ _=>h_) x hx hlt);clear aq;have hfne:(AR (AY pl (Am n))).2≠ []:=Dv Zo;refine jG ?_;replace hb:=hb.keep ag hbd;replace hL:=hL.keep ag hFG;replace a0:=a0.kO ag aB;replace a5:=a5.kO ag ai;replace hR2:=hR2.kO ag aA;refine jF ?_ ?_
    ·intro hc67
     refine jG ?_;refine jK func113 ?_;have hEq:=hRP.trans (Sj hn hfne hc67);rw[hEq];exact⟨_,rfl,ak,aQ,A7 aR,K0,.inr ⟨hc67,rfl⟩⟩
    ·intro hc67
     refine jG ?_;refine jK func113 ?_;have hEq:=hRP.trans (Si hn hfne hc67);rw[hEq];exact⟨_,rfl,ak,aQ,A7 aR,K0,.inl ⟨rfl,aj,cj,_,rfl,a5,hR2,hRB,ap,aP,(Zf aO),(Zf bD),(Zf bE)⟩⟩
   ·intro hc58
    refine jG ?_;refine jV (Az (c:=((i+1:Nat):Int)) (Au rfl rfl Zo Zo) rfl) ?_;refine jG ?_;have hfe:(AR (AY pl (Am n))).2=[]:=AaK Zo;have hgo:=hRP.trans (Ue hn hfe);rw[<-hRB]at hgo;refine ih1 (i+1) _ _ ?_ Zo;refine⟨List.foldl CB rs ss,_,_,⟨rfl,rfl,rfl,rfl,rfl,rfl,trivial⟩,K0,hb,hL,hD,a0,hR2,a5,bA,aA,bB,aO,bC,aw,ai,ax,az,aP,ap,?_,?_,?_⟩
    ·omega
    ·omega
    ·exact hgo
 ·intro hc19
  refine jG ?_;refine jK func113 ?_;have hie:i=(AQ pl).length:=by omega
  subst hie;rw[List.drop_length]at hRP;rw[hRP];exact⟨_,rfl,F,hD,A7 (fun q_ h_ _=>h_),K0,.inl ⟨rfl,ao,co,_,rfl,a3,al,rfl,aH,aG,(Zf aE),aF,aD⟩⟩
end Go.Proofs.YtjkaicjmfgekjaaGreatDoor
namespace Go.Proofs.YtjkaicjmfgekjaaGreatDoor
open Go.Proofs.Tryz
attribute [local irreducible] RD RS AA RL RA RT Cz Ai crcN CH Cx F8 B1 leL CM Am AQ DY D7 EO Ff DH
def Ck (b:List UInt8):Int:=if b=[]then 1 else if 65536<b.length then 4 else 0
theorem Ws {b:List UInt8}(h:Ck b=0):b≠ []∧b.length<=65536:=by
 rw[Ck]at h
 split at h
 ·cases h
 ·split at h
  ·cases h
  ·exact⟨by assumption,by omega⟩
def CD (pl:List PF)(ns:List Int):List PF:=pl.map fun f=>if ns.any (fun n=>decide (f.name=Am n))then{f with synced:=f.bytes.length}else f
theorem HT (pl:List PF):CD pl []=pl:=by rw[CD];simp
theorem N6 (pl:List PF)(ns:List Int)(n:Int):CD pl (ns++[n])=Cd (CD pl ns) (Am n):=by
 rw[CD,Cd,DF,CD,Aat]
 refine AaF fun f _=> ?_
 simp only[Function.comp,List.any_append,List.any_cons,List.any_nil,Bool.or_false,AbD,decide_eq_true_eq]
 generalize ns.any (fun n=>decide (f.name=Am n))=b
 cases b<;>by_cases h2:f.name=Am n<;>simp[h2]
theorem L2 {pl:List PF}{ns:List Int}{i:Nat}{n:Int}(h:ns[i]? =some n):CD pl (ns.take (i+1))=Cd (CD pl (ns.take i)) (Am n):=by
 obtain⟨hi,rfl⟩:=List.getElem?_eq_some_iff.1 h
 rw[AaL hi,N6]
theorem L3 {pl:List PF}{ns:List Int}{s:ByteArray}(h:Cs pl s=true):Cs (CD pl ns) s=true:=by
 obtain⟨f,hf,rfl⟩:=Bg.1 h
 refine Bg.2 ⟨_,List.mem_map.2 ⟨f,hf,rfl⟩,?_⟩
 split<;>rfl
theorem KH {pl:List PF}{s:ByteArray}(h:Cs pl s=false):Bp pl s=pl:=by
 rw[Bp,Abq]
 intro f hf
 simp only[decide_eq_true_eq]
 exact fun e=>by rw[Bg.2 ⟨f,hf,e⟩]at h;cases h
theorem fresh_may :CK freshN=true:=by decide+kernel
theorem Lu {pl:List PF}(h:Cs pl freshN=false):CL pl freshN=20:=by rw[CL,if_pos fresh_may,h];rfl
noncomputable def Ar (room:Int)(pl:List PF):Int×List (List UInt8)×List PF:=Dk room pl (AQ pl) []
noncomputable def A1 (room:Int)(pl:List PF):Int×List (List UInt8)×List PF:=
 if (Ar room (Bp pl freshN)).1=0 then(0,(Ar room (Bp pl freshN)).2.1,CD (Ar room (Bp pl freshN)).2.2 (AQ (Ar room (Bp pl freshN)).2.2))
 else((Ar room (Bp pl freshN)).1,[],(Ar room (Bp pl freshN)).2.2)
noncomputable def Ay (room:Int)(pl:List PF)(xs:List UInt8):Int×List PF:=
 if Ck xs≠0 then(Ck xs,pl)else
 if 0<Bj pl∧4096<=CY pl (Am (Bj pl))then
  (if 999999999<max (Bj pl+1) 1 then(70,Cd pl (Am (Bj pl)))else(De room (Cd pl (Am (Bj pl))) (Am (max (Bj pl+1) 1)) (As xs),Df room (Cd pl (Am (Bj pl))) (Am (max (Bj pl+1) 1)) (As xs)))
 else(if 999999999<max (Bj pl) 1 then(70,pl)else(De room pl (Am (max (Bj pl) 1)) (As xs),Df room pl (Am (max (Bj pl) 1)) (As xs)))
noncomputable def Fi (pl:List PF):List PF:=if Bj pl=0 then pl else Cd pl (Am (Bj pl))
theorem G4 {pl:List PF}(h:Bj pl≠0):Bj pl∈AQ pl:=by
 rw[Bj]at h⊢
 cases hl:(AQ pl).getLast? with
 |none=>rw[hl]at h;exact absurd rfl h
 |some x=>exact List.mem_of_getLast? hl
theorem QY (pl:List PF):0<=Bj pl∧Bj pl<=999999999:=by
 by_cases h:Bj pl=0
 ·omega
 ·have:=CF.1 (G4 h);omega
theorem Px {w:World}{d:Nat}{F:Nat->Prop}{room:Int}{pl:List PF}(h:AG w d F room pl)(name:ByteArray)(hs:name.size<=4294967295)(E:Int)(he:CL pl name=E):Calls prog 58 #[jp d,.string name] w
  (AN fun v w'=>v= .tuple #[.int .i64 ((CY pl name:Nat):Int),.int .i64 ((Ec pl name:Nat):Int),.int .i64 E]∧Ap w w'):=he▸XH h name hs
attribute [local irreducible] Ar Ck As X
theorem Py (b d:Nat)(F:Nat->Prop)(room:Int)(pl:List PF)(w:World)(hb:AB w b [jp d] 161)(hD:AG w d F room pl)(hbd:¬F b)(hL:A2 w):
  Calls prog 89 #[jp b] w (AN (fun v w'=>v= .bool true∧Ap w w')):=by
 have hLs:=hL.size;refine Ac (n:=13) func89 rfl rfl rfl ?_;refine jG ?_;refine jV (DN (EC underlying89 rfl rfl) rfl) ?_;refine jG ?_;refine jT<|jO (DN (EC underlying23 rfl rfl) rfl) ?_;refine jV (BU rfl rfl rfl) ?_;refine jG ?_;refine jJ func89 ?_;exact⟨_,rfl,rfl,(Ad.refl _ w)⟩
theorem Wt (a:Option Addr)(xs:List UInt8)(c:Nat)(w:World):
  Calls prog 90 #[.slice a xs.length c] w (AN (fun v w'=>v= .int .i64 (Ck xs)∧Ap w w')):=by
 refine Ac (n:=11) func90 rfl rfl rfl ?_;refine jG ?_;refine jF ?_ ?_
 ·intro hc3
  refine jG ?_;refine jJ func90 ?_;exact⟨_,rfl,by unfold Ck;rw[if_pos (AaK Zo)],(Ad.refl _ w)⟩
 ·intro hc3
  refine jG ?_;refine jF ?_ ?_
  ·intro hc7
   refine jG ?_;refine jJ func90 ?_;exact⟨_,rfl,by unfold Ck;rw[if_neg (Dv Zo),if_pos Zo],(Ad.refl _ w)⟩
  ·intro hc7
   refine jG ?_;refine jJ func90 ?_;exact⟨_,rfl,by unfold Ck;rw[if_neg (Dv Zo),if_neg Zo],(Ad.refl _ w)⟩
theorem Ug (b d:Nat)(F:Nat->Prop)(room:Int)(pl:List PF)(w:World)(hb:AB w b [jp d] 161)(hD:AG w d F room pl)(hbd:¬F b)(hL:A2 w):
  Calls prog 114 #[jp b] w (AN (fun v w'=>∃a' c',v= .slice a' (AQ pl).length c'∧Af w' 3 a' c' (AQ pl)∧(∀q,own a' q->w.heap.size<=q)∧Ap w w')):=by
 have hLs:=hL.size;have hok:=hD.ok;have hlen:=hok.len;have hsl:=E1 pl;refine Ac (n:=10) func114 rfl rfl rfl ?_;refine jG ?_;refine jR<|jC (Py _ _ _ _ _ _ hb hD hbd hL) ?_;rintro _ a7 ⟨rfl,a0⟩;have K0:=(a0:Ap w _);refine jV (Bn (b:=true) rfl) ?_;refine jG ?_;refine Ai.condF rfl ?_;refine jG ?_;replace hb:=hb.ext a0;replace hD:=hD.ext a0;replace hL:=hL.ext a0;refine jR<|jC (Ub _ _ _ _ _ _ hb hD hbd hL) ?_;rintro _ a8 ⟨a2,a3,rfl,a4,a1,a5⟩;have a6:=Bd K0.size a1;clear a1;refine jG ?_;refine jJ func114 ?_;replace K0:=K0.ext a5;exact⟨_,rfl,a2,a3,rfl,a4,a6,K0⟩
theorem Uh (b d:Nat)(F:Nat->Prop)(room:Int)(pl:List PF)(w:World)(hb:AB w b [jp d] 161)(hD:AG w d F room pl)(hbd:¬F b)(hL:A2 w)(hFG:∀q,F q->7<=q):
  Calls prog 50 #[jp b] w (AN (FE d F room w 0 (Fi pl))):=by
 have hLs:=hL.size;have hnm:=BY (Bj pl);refine Ac (n:=21) func50 rfl rfl rfl ?_;refine jG ?_;refine jR<|jC (Py _ _ _ _ _ _ hb hD hbd hL) ?_;rintro _ a9 ⟨rfl,a0⟩;have K0:=(a0:Ap w _).to (S:=F);refine jV (Bn (b:=true) rfl) ?_;refine jG ?_;refine Ai.condF rfl ?_;refine jG ?_;replace hb:=hb.ext a0;replace hD:=hD.ext a0;replace hL:=hL.ext a0;refine jR<|jC (XJ _ _ _ _ _ _ hb hD hbd hL) ?_;rintro _ aa ⟨rfl,a1⟩;refine jG ?_;replace hb:=hb.ext a1;replace hD:=hD.ext a1;replace hL:=hL.ext a1;replace K0:=K0.ext a1;refine jF ?_ ?_
 ·intro hc12
  refine jG ?_;refine jJ func50 ?_;have hEq:Fi pl=pl:=by rw[Fi,if_pos hc12]
  rw[hEq];exact⟨_,rfl,F,rfl,hD,A7 (fun q_ h_ _=>h_),K0⟩
 ·intro hc12
  refine jG ?_;refine Ai.drawS [] [0,1,2,3,1004,5,2006,2007,8] ?_;intro ab a2;replace hb:=hb.ext a2;refine jM (jb hb Jn) ?_;refine jG ?_;replace hL:=hL.ext a2;refine jU rfl<|jC (CI (Bj pl) _ hL) ?_;rintro _ ac ⟨rfl,a3⟩;replace hb:=hb.ext a3;refine jG ?_;replace hD:=(hD.ext a2).ext a3;refine jU rfl<|jC (EE (NR hD (Am (Bj pl)) (by first|omega|decide)) (Ii (G4 hc12)) rfl) ?_;rintro _ ad ⟨a4,rfl,a7,a5,a6⟩;replace K0:=(K0.ext a2).ext a3;have a8:∀q_,a4 q_->q_<w.heap.size->F q_:=a5.inS (fun q_ h_ _=>h_) K0.size;replace K0:=K0.trans a6 (fun x hlt hx=>(fun q_ h_ _=>h_) x hx hlt);clear a5;replace hb:=hb.keep a6 hbd;refine jG ?_;refine jJ func50 ?_;have hEq:Fi pl=Cd pl (Am (Bj pl)):=by rw[Fi,if_neg hc12]
  rw[hEq];exact⟨_,rfl,a4,rfl,a7,A7 a8,K0⟩
theorem EF (b d:Nat)(F:Nat->Prop)(room:Int)(pl:List PF)(a:Option Addr)(xs:List UInt8)(c:Nat)(w:World)(hb:AB w b [jp d] 161)(hD:AG w d F room pl)(hbd:¬F b)(hL:A2 w)(hFG:∀q,F q->7<=q)(hs:Av w a xs)(hdis:∀x,a=some x->¬F x.block):
  Calls prog 40 #[jp b,.slice a xs.length c] w (AN (FE d F room w (Ay room pl xs).1 (Ay room pl xs).2)):=by
 have hLs:=hL.size;have hnm:=BY (Bj pl);have hll:=QY pl;refine Ac (n:=79) func40 rfl rfl rfl ?_;refine jG ?_;refine jR<|jC (Py _ _ _ _ _ _ hb hD hbd hL) ?_;rintro _ aO ⟨rfl,a6⟩;have K0:=(a6:Ap w _).to (S:=F);refine jV (Bn (b:=true) rfl) ?_;refine jG ?_;refine Ai.condF rfl ?_;refine jG ?_;refine jR<|jC (Wt _ xs _ _) ?_;rintro _ aP ⟨rfl,a7⟩;refine jG ?_;replace hb:=(hb.ext a6).ext a7;replace hD:=(hD.ext a6).ext a7;replace hL:=(hL.ext a6).ext a7;replace K0:=K0.ext a7;refine jF ?_ ?_
 ·intro hc15
  refine jG ?_;refine jJ func40 ?_;have hEq:Ay room pl xs=(Ck xs,pl):=by rw[Ay,if_pos hc15]
  rw[hEq];exact⟨_,rfl,F,rfl,hD,A7 (fun q_ h_ _=>h_),K0⟩
 ·intro hc15
  have hm0:Ck xs=0:=hc15;rw[hm0];have hmk:=Ws hm0;refine jG ?_;refine jR<|jC (XJ _ _ _ _ _ _ hb hD hbd hL) ?_;rintro _ aQ ⟨rfl,a8⟩;refine jG ?_;replace hb:=hb.ext a8;replace hD:=hD.ext a8;replace hL:=hL.ext a8;replace K0:=K0.ext a8;refine jF ?_ ?_
  ·intro hc22
   skip
   refine Ai.drawS [] [0,1,2,3,1004,5,2006,2007,8,9,10,11,12,13] ?_;intro aR a9;replace hb:=hb.ext a9;refine jM (jb hb Jn) ?_;refine jG ?_;replace hL:=hL.ext a9;refine jU rfl<|jC (CI (Bj pl) _ hL) ?_;rintro _ aS ⟨rfl,aa⟩;replace hb:=hb.ext aa;refine jG ?_;replace hD:=(hD.ext a9).ext aa;refine jU rfl<|jC (Px hD (Am (Bj pl)) (by first|omega|decide) 0 (Ii (G4 Zo))) ?_;rintro _ aT ⟨rfl,ab⟩;replace hb:=hb.ext ab;refine jG ?_;refine jV (BU rfl rfl rfl) ?_;refine jG ?_;refine jV (Be rfl rfl rfl) ?_;refine jG ?_;replace K0:=((K0.ext a9).ext aa).ext ab;replace hL:=(hL.ext aa).ext ab;replace hD:=hD.ext ab;refine jF ?_ ?_
   ·intro hc44
    skip
    refine jG ?_;refine Ai.drawS [] [0,1,2,3,1004,5,2006,2007,8] ?_;intro aU ac;replace hb:=hb.ext ac;refine jM (jb hb Jn) ?_;refine jG ?_;replace hL:=hL.ext ac;refine jU rfl<|jC (CI (Bj pl) _ hL) ?_;rintro _ aV ⟨rfl,ad⟩;replace hb:=hb.ext ad;refine jG ?_;replace hD:=(hD.ext ac).ext ad;refine jU rfl<|jC (EE (NR hD (Am (Bj pl)) (by first|omega|decide)) (Ii (G4 Zo)) rfl) ?_;rintro _ aW ⟨ae,rfl,a0,af,ak⟩;have aD:¬ae b:=af.not hbd hb.lt;replace K0:=(K0.ext ac).ext ad;have al:∀q_,ae q_->q_<w.heap.size->F q_:=af.inS (fun q_ h_ _=>h_) K0.size;have aE:∀q_,ae q_->7<=q_:=fun q_ h_=>(af q_ h_).elim (hFG q_) (fun h2_=>Aaa hLs (Aaa K0.size h2_));replace K0:=K0.trans ak (fun x hlt hx=>(fun q_ h_ _=>h_) x hx hlt);clear af;replace hb:=hb.keep ak hbd;refine jG ?_;refine jV (Au rfl rfl Zo Zo) ?_;refine jG ?_;refine Ai.condF rfl ?_;refine jG ?_;refine jV (II rfl rfl) ?_;refine jG ?_;replace hL:=(hL.ext ad).keep ak hFG;refine jF ?_ ?_
    ·intro hc61
     refine jG ?_;refine jJ func40 ?_;have hEq:Ay room pl xs=(70,Cd pl (Am (Bj pl))):=by rw[Ay,if_neg (by rw[hm0];decide),if_pos ⟨by omega,by omega⟩,if_pos hc61]
     rw[hEq];exact⟨_,rfl,ae,rfl,a0,A7 al,K0⟩
    ·intro hc61
     have hnm1:=BY (max (Bj pl+1) 1);have hnm2:=BY (max (Bj pl) 1);have hfb:=Eu xs Zo;refine jG ?_;refine jR<|jC (Pr _ _ _ _ (hs.keep K0 hdis) (by first|omega|(simp;done))) ?_;rintro _ aX ⟨aY,aZ,rfl,am,ar,ag⟩;have aF:=Ah ar a0.oL;clear ar;refine jG ?_;refine Ai.condF rfl ?_;refine jG ?_;refine Ai.drawS [] [0,1,2,3,1004,5,7,2006,2008,9] ?_;intro b0 a1;replace hb:=(hb.ext ag).ext a1;refine jM (jb hb Jn) ?_;refine jG ?_;replace hL:=(hL.ext ag).ext a1;refine jU rfl<|jC (CI (max ((Bj pl)+1) 1) _ hL) ?_;rintro _ b1 ⟨rfl,a2⟩;replace hb:=hb.ext a2;refine jG ?_;replace a0:=((a0.ext ag).ext a1).ext a2;replace am:=(am.ext a1).ext a2;refine jU rfl<|jC (JL a0 (Am (max ((Bj pl)+1) 1)) _ _ _ (by first|omega|decide) am.sl (fun x_ hx_=>aF _ ⟨x_,hx_,rfl⟩) (by first|omega|decide)) ?_;rintro _ b2 ⟨au,rfl,aG,av,an⟩;replace K0:=((K0.ext ag).ext a1).ext a2;have aH:∀q_,au q_->q_<w.heap.size->F q_:=av.inS al K0.size;replace K0:=K0.trans an (fun x hlt hx=>al x hx hlt);clear av;replace hb:=hb.keep an aD;refine jG ?_;refine jJ func40 ?_;have hEq:Ay room pl xs=(De room (Cd pl (Am (Bj pl))) (Am (max ((Bj pl)+1) 1)) (As xs),Df room (Cd pl (Am (Bj pl))) (Am (max ((Bj pl)+1) 1)) (As xs)):=by rw[Ay,if_neg (by rw[hm0];decide),if_pos ⟨by omega,by omega⟩,if_neg Zo]
     rw[hEq];replace hL:=(hL.ext a2).keep an aE;exact⟨_,rfl,au,rfl,aG,A7 aH,K0⟩
   ·intro hc44
    skip
    refine jG ?_;refine Ai.condF rfl ?_;refine jG ?_;refine jV (II rfl rfl) ?_;refine jG ?_;refine jF ?_ ?_
    ·intro hc61
     refine jG ?_;refine jJ func40 ?_;have hEq:Ay room pl xs=(70,pl):=by rw[Ay,if_neg (by rw[hm0];decide),if_neg Zo,if_pos hc61]
     rw[hEq];exact⟨_,rfl,F,rfl,hD,A7 (fun q_ h_ _=>h_),K0⟩
    ·intro hc61
     have hnm1:=BY (max (Bj pl+1) 1);have hnm2:=BY (max (Bj pl) 1);have hfb:=Eu xs Zo;refine jG ?_;refine jR<|jC (Pr _ _ _ _ (hs.keep K0 hdis) (by first|omega|(simp;done))) ?_;rintro _ b3 ⟨b4,b5,rfl,ao,aw,ah⟩;have aI:=Ah aw hD.oL;clear aw;refine jG ?_;refine Ai.condF rfl ?_;refine jG ?_;refine Ai.drawS [] [0,1,2,3,1004,5,7,2006,2008,9] ?_;intro b6 a3;replace hb:=(hb.ext ah).ext a3;refine jM (jb hb Jn) ?_;refine jG ?_;replace hL:=(hL.ext ah).ext a3;refine jU rfl<|jC (CI (max (Bj pl) 1) _ hL) ?_;rintro _ b7 ⟨rfl,a4⟩;replace hb:=hb.ext a4;refine jG ?_;replace hD:=((hD.ext ah).ext a3).ext a4;replace ao:=(ao.ext a3).ext a4;refine jU rfl<|jC (JL hD (Am (max (Bj pl) 1)) _ _ _ (by first|omega|decide) ao.sl (fun x_ hx_=>aI _ ⟨x_,hx_,rfl⟩) (by first|omega|decide)) ?_;rintro _ b8 ⟨ax,rfl,aJ,ay,ap⟩;replace K0:=((K0.ext ah).ext a3).ext a4;have aK:∀q_,ax q_->q_<w.heap.size->F q_:=ay.inS (fun q_ h_ _=>h_) K0.size;replace K0:=K0.trans ap (fun x hlt hx=>(fun q_ h_ _=>h_) x hx hlt);clear ay;replace hb:=hb.keep ap hbd;refine jG ?_;refine jJ func40 ?_;have hEq:Ay room pl xs=(De room pl (Am (max (Bj pl) 1)) (As xs),Df room pl (Am (max (Bj pl) 1)) (As xs)):=by rw[Ay,if_neg (by rw[hm0];decide),if_neg Zo,if_neg Zo]
     rw[hEq];replace hL:=(hL.ext a4).keep ap hFG;exact⟨_,rfl,ax,rfl,aJ,A7 aK,K0⟩
  ·intro hc22
   skip
   refine jG ?_;refine jV (BU rfl rfl rfl) ?_;refine Em ?_;refine jW ?_ (hx:=by exact fun hg=>(D9 (Nv (BR hg) rfl) Zd));refine jV (Be rfl rfl rfl) ?_;refine jG ?_;refine jF ?_ ?_
   ·intro hc44
    simp at hc44
   ·intro hc44
    skip
    refine jG ?_;refine Ai.condF rfl ?_;refine jG ?_;refine jV (II rfl rfl) ?_;refine jG ?_;refine jF ?_ ?_
    ·intro hc61
     refine jG ?_;refine jJ func40 ?_;have hEq:Ay room pl xs=(70,pl):=by rw[Ay,if_neg (by rw[hm0];decide),if_neg Zo,if_pos hc61]
     rw[hEq];exact⟨_,rfl,F,rfl,hD,A7 (fun q_ h_ _=>h_),K0⟩
    ·intro hc61
     have hnm1:=BY (max (Bj pl+1) 1);have hnm2:=BY (max (Bj pl) 1);have hfb:=Eu xs Zo;refine jG ?_;refine jR<|jC (Pr _ _ _ _ (hs.keep K0 hdis) (by first|omega|(simp;done))) ?_;rintro _ b9 ⟨ba,bb,rfl,aq,az,ai⟩;have aL:=Ah az hD.oL;clear az;refine jG ?_;refine Ai.condF rfl ?_;refine jG ?_;refine Ai.drawS [] [0,1,2,3,1004,5,7,2006,2008,9] ?_;intro bc a5;replace hb:=(hb.ext ai).ext a5;refine jM (jb hb Jn) ?_;refine jG ?_;replace hL:=(hL.ext ai).ext a5;refine jU rfl<|jC (CI (max (Bj pl) 1) _ hL) ?_;rintro _ be ⟨rfl,aj⟩;replace hb:=hb.ext aj;refine jG ?_;replace hD:=((hD.ext ai).ext a5).ext aj;replace aq:=(aq.ext a5).ext aj;refine jU rfl<|jC (JL hD (Am (max (Bj pl) 1)) _ _ _ (by first|omega|decide) aq.sl (fun x_ hx_=>aL _ ⟨x_,hx_,rfl⟩) (by first|omega|decide)) ?_;rintro _ bg ⟨aA,rfl,aM,aB,aC⟩;replace K0:=((K0.ext ai).ext a5).ext aj;have aN:∀q_,aA q_->q_<w.heap.size->F q_:=aB.inS (fun q_ h_ _=>h_) K0.size;replace K0:=K0.trans aC (fun x hlt hx=>(fun q_ h_ _=>h_) x hx hlt);clear aB;replace hb:=hb.keep aC hbd;refine jG ?_;refine jJ func40 ?_;have hEq:Ay room pl xs=(De room pl (Am (max (Bj pl) 1)) (As xs),Df room pl (Am (max (Bj pl) 1)) (As xs)):=by rw[Ay,if_neg (by rw[hm0];decide),if_neg Zo,if_neg Zo]
     rw[hEq];exact⟨_,rfl,aA,rfl,aM,A7 aN,K0⟩
theorem Ui (b d:Nat)(F:Nat->Prop)(room:Int)(pl:List PF)(w:World)(hb:AB w b [jp d] 161)(hD:AG w d F room pl)(hbd:¬F b)(hL:A2 w)(hFG:∀q,F q->7<=q):Calls prog 113 #[jp b] w (AN fun v w'=>∃F',AG w' d F' room (Ar room pl).2.2∧AL w F F'∧Ad F w w'∧(((Ar room pl).1=0∧∃a' c',∃rs:List RB,v= .tuple #[.slice a' (rs.map RB.h).length c',.int .i64 0]∧Af w' 98 a' c' (rs.map RB.h)∧BJ w' rs∧rs.map RB.b=(Ar room pl).2.1∧(∀q,own a' q->w.heap.size<=q)∧(∀q,Bi rs q->w.heap.size<=q)∧(∀q,own a' q->¬Bi rs q)∧(∀q,own a' q->¬F' q)∧(∀q,Bi rs q->¬F' q))∨((Ar room pl).1≠0∧v= .tuple #[.slice none 0 0,.int .i64 (Ar room pl).1]))):=by
 unfold Ar
 exact Yo b d F room pl w hb hD hbd hL hFG
theorem Yp (d:Nat)(F:Nat->Prop)(room:Int)(pl:List PF)(w:World)(hD:AG w d F room pl)(hL:A2 w)(hFG:∀q,F q->7<=q):
  Calls prog 59 #[jp d] w (AN (fun v w'=>∃F',AG w' d F' room (A1 room pl).2.2∧AL w F F'∧Ad F w w'∧(((A1 room pl).1=0∧∃a' c',∃rs:List RB,∃b,v= .tuple #[jp b,.slice a' (rs.map RB.h).length c',.int .i64 0]∧AB w' b [jp d] 161∧¬F' b∧w.heap.size<=b∧Af w' 98 a' c' (rs.map RB.h)∧BJ w' rs∧rs.map RB.b=(A1 room pl).2.1∧(∀q,own a' q->w.heap.size<=q)∧(∀q,Bi rs q->w.heap.size<=q)∧(∀q,own a' q->¬Bi rs q)∧(∀q,own a' q->¬F' q)∧(∀q,Bi rs q->¬F' q))∨((A1 room pl).1≠0∧v= .tuple #[.pointer none,.slice none 0 0,.int .i64 (A1 room pl).1])))):=by
 have hLs:=hL.size;have hfs:freshN.size=7:=rfl;refine Ac (n:=60) func59 rfl rfl rfl ?_;refine Em ?_;refine FW ?_;by_cases hfr:Cs pl freshN=true
 ·refine jG ?_
  refine jR<|jC (Px hD freshN (by first|omega|decide) 0 (Ee fresh_may hfr)) ?_;rintro _ bY ⟨rfl,aJ⟩;have K0:=(aJ:Ap w _).to (S:=F);refine jG ?_;refine Ai.condF rfl ?_;refine jG ?_;refine C4 ?_;refine jG ?_;replace hD:=hD.ext aJ;refine jR<|jC (EE (JM hD freshN (by first|omega|decide)) (Ee fresh_may hfr) rfl) ?_;rintro _ bZ ⟨b2,rfl,aC,aK,b3⟩;have aD:∀q_,b2 q_->q_<w.heap.size->F q_:=aK.inS (fun q_ h_ _=>h_) K0.size;have aE:∀q_,b2 q_->7<=q_:=fun q_ h_=>(aK q_ h_).elim (hFG q_) (fun h2_=>Aaa hLs (Aaa K0.size h2_));replace K0:=K0.trans b3 (fun x hlt hx=>(fun q_ h_ _=>h_) x hx hlt);clear aK;refine jG ?_;refine Ai.condF rfl ?_;refine jG ?_;refine jV (AI (cells:=#[jp d]) Zk) ?_;refine jV (AI (cells:=#[jp d]) Zk) ?_;refine jR<|jB ?_;intro aa c0 aL a0 aM;have aN:=An aC.oL aL;have:=Aaa K0.size aL;clear aL;refine jG ?_;replace hL:=((hL.ext aJ).keep b3 hFG).ext aM;replace aC:=aC.ext aM;refine jR<|jC (Ui _ _ _ _ _ _ a0 aC aN hL aE) ?_;rintro vv c1 ⟨au,a8,ag,av,aw⟩;replace K0:=K0.ext aM;rcases aw with aw|aw
  ·obtain⟨bi,ah,aF,ai,rfl,a2,a3,bj,bk,bl,bm,bn,bo⟩:=aw
   have bp:=Bd K0.size bk;have bq:=Bd K0.size bl;have b4:¬au aa:=ag.not aN a0.lt;have bs:∀q_,au q_->q_<w.heap.size->F q_:=ag.inS aD K0.size;have bt:∀q_,au q_->7<=q_:=fun q_ h_=>(ag q_ h_).elim (aE q_) (fun h2_=>Aaa hLs (Aaa K0.size h2_));replace K0:=K0.trans av (fun x hlt hx=>aD x hx hlt);clear ag;refine jG ?_;refine Ai.condF rfl ?_;refine jG ?_;replace hL:=hL.keep av aE;replace a0:=a0.keep av aN;refine jR<|jC (Ug _ _ _ _ _ _ a0 a8 b4 hL) ?_;rintro _ c2 ⟨aG,b5,rfl,a6,b6,aj⟩;have bu:=Ah b6 a8.oL;clear b6;have hsl:=E1 (Ar room (Bp pl freshN)).2.2;replace a8:=a8.ext aj;have hlen2:=a8.ok.len;refine jG ?_;replace hL:=hL.ext aj;replace a0:=a0.ext aj;replace a2:=a2.ext aj;replace a3:=a3.ext aj;replace K0:=K0.ext aj;refine Ai.loop (ι:=Nat) (fun i ρ' w'=>∃Fk:Nat->Prop,Holds ρ' [(0,jp d),(8,jp aa),(9,.slice ah ((ai.map RB.h).length) aF),(44,.slice aG ((AQ ((Ar room (Bp pl freshN)).2.2)).length) b5),(45,.int .i64 (((AQ ((Ar room (Bp pl freshN)).2.2)).length:Nat):Int)),(46,.int .i64 ((i:Nat):Int)),(7,.int .i64 0)]∧Ad F w w'∧(A2 w')∧(AB w' aa [jp d] 161)∧(Af w' 98 ah aF (ai.map RB.h))∧(BJ w' ai)∧(Af w' 3 aG b5 (AQ ((Ar room (Bp pl freshN)).2.2)))∧(AG w' d Fk room (CD (Ar room (Bp pl freshN)).2.2 ((AQ (Ar room (Bp pl freshN)).2.2).take i)))∧(¬Fk aa)∧(∀q_,Fk q_->¬own ah q_)∧(∀q_,Fk q_->¬Bi ai q_)∧(∀q_,Fk q_->¬own aG q_)∧(∀q_,Fk q_->q_<w.heap.size->F q_)∧(∀q_,Fk q_->7<=q_)∧(i<=(AQ (Ar room (Bp pl freshN)).2.2).length)) (fun i=>(AQ (Ar room (Bp pl freshN)).2.2).length-i) 0 ?_ ?_
   ·rw[show CD (Ar room (Bp pl freshN)).2.2 ((AQ (Ar room (Bp pl freshN)).2.2).take 0)=(Ar room (Bp pl freshN)).2.2 by rw[AaE,HT]]
    refine⟨_,⟨rfl,rfl,rfl,rfl,rfl,rfl,rfl,trivial⟩,K0,hL,a0,a2,a3,a6,a8,b4,(Zf bn),(Zf bo),(Zf bu),bs,bt,?_⟩
    ·omega
   clear a0 a8 a2 a3 a6;clear K0;rintro i c3 c4 ⟨Fk,b7,K0,hL,a0,a2,a3,a6,ax,aO,aP,aQ,b8,aR,b9,hi⟩ ih1;obtain⟨ρ₀,rfl⟩:=b7.ex;clear b7;refine jG ?_;refine jF ?_ ?_
   ·intro hc47
    obtain⟨c5,c6,n,hn,c7,c8⟩:=a6.sl.eo i;have hnm:=BY n;refine jG ?_;refine jR<|jC (CI n _ hL) ?_;rintro _ c9 ⟨rfl,ab⟩;replace ax:=ax.ext ab;refine jR<|jC (EE (NR ax (Am n) (by first|omega|decide)) (Ee (Dp (CF.1 (Aan hn)).1 (CF.1 (Aan hn)).2.1) (L3 (CF.1 (Aan hn)).2.2)) rfl) ?_;rintro _ ca ⟨ak,rfl,bv,ac,al⟩;replace a0:=a0.ext ab;have bw:¬ak aa:=ac.not aO a0.lt;replace a2:=a2.ext ab;have bx:∀q_,ak q_->¬own ah q_:=ac.apart aP a2.oL;replace a3:=a3.ext ab;have bz:∀q_,ak q_->¬Bi ai q_:=ac.apart aQ a3.oL;replace a6:=a6.ext ab;have bA:∀q_,ak q_->¬own aG q_:=ac.apart b8 a6.oL;replace K0:=K0.ext ab;have bB:∀q_,ak q_->q_<w.heap.size->F q_:=ac.inS aR K0.size;have bC:∀q_,ak q_->7<=q_:=fun q_ h_=>(ac q_ h_).elim (b9 q_) (fun h2_=>Aaa hLs (Aaa K0.size h2_));replace K0:=K0.trans al (fun x hlt hx=>aR x hx hlt);clear ac;refine jG ?_;refine Ai.condF rfl ?_;refine jG ?_;refine jV (Az (c:=((i+1:Nat):Int)) (Au rfl rfl Zo Zo) rfl) ?_;refine jG ?_;have e:=L2 (pl:=(Ar room (Bp pl freshN)).2.2) hn;refine ih1 (i+1) _ _ ?_ Zo;rw[e];replace hL:=(hL.ext ab).keep al b9;replace a0:=a0.keep al aO;replace a2:=a2.kO al (Zf aP);replace a3:=a3.kO al (Zf aQ);replace a6:=a6.kO al (Zf b8);refine⟨_,⟨rfl,rfl,rfl,rfl,rfl,rfl,rfl,trivial⟩,K0,hL,a0,a2,a3,a6,bv,bw,bx,bz,bA,bB,bC,?_⟩
    ·omega
   ·intro hc47
    refine jG ?_;refine Ai.ret3 (v:=jp aa) (x:= .slice ah ((ai.map RB.h).length) aF) (y:= .int .i64 0) func59 rfl rfl rfl rfl ?_;have hie:i=(AQ (Ar room (Bp pl freshN)).2.2).length:=by omega
    subst hie;rw[Aas]at ax;have hEq:A1 room pl=(0,(Ar room (Bp pl freshN)).2.1,CD (Ar room (Bp pl freshN)).2.2 (AQ (Ar room (Bp pl freshN)).2.2)):=by rw[A1,if_pos bi]
    rw[hEq];exact⟨_,rfl,Fk,ax,A7 aR,K0,.inl ⟨rfl,ah,aF,_,aa,rfl,a0,aO,by omega,a2,a3,bj,bp,bq,bm,(Zf aP),(Zf aQ)⟩⟩
  ·obtain⟨aS,rfl⟩:=aw
   have bD:∀q_,au q_->q_<w.heap.size->F q_:=ag.inS aD K0.size;replace K0:=K0.trans av (fun x hlt hx=>aD x hx hlt);clear ag;refine jG ?_;replace hL:=hL.keep av aE;refine jF ?_ ?_
   ·intro hc41
    refine jG ?_;refine Ai.ret3 (v:= .pointer none) (x:= .slice none 0 0) (y:= .int .i64 ((Ar room (Bp pl freshN)).1)) func59 rfl rfl rfl rfl ?_;have hEq:A1 room pl=((Ar room (Bp pl freshN)).1,[],(Ar room (Bp pl freshN)).2.2):=by rw[A1,if_neg aS]
    rw[hEq];exact⟨_,rfl,au,a8,A7 bD,K0,.inr ⟨aS,rfl⟩⟩
   ·intro hc41
    exact absurd hc41 aS
 ·refine jG ?_
  refine jR<|jC (Px hD freshN (by first|omega|decide) 20 (Lu (by simpa using hfr))) ?_;rintro _ cb ⟨rfl,aT⟩;have K0:=(aT:Ap w _).to (S:=F);refine jG ?_;refine Ai.condF rfl ?_;refine jG ?_;refine Ai.condF rfl ?_;replace hD:=hD.ext aT;rw[show pl=Bp pl freshN from(KH (by simpa using hfr)).symm]at hD;refine jG ?_;refine jV (AI (cells:=#[jp d]) Zk) ?_;refine jV (AI (cells:=#[jp d]) Zk) ?_;refine jR<|jB ?_;intro ad cc aU a1 aV;have aW:=An hD.oL aU;have:=Aaa K0.size aU;clear aU;refine jG ?_;replace hL:=(hL.ext aT).ext aV;replace hD:=hD.ext aV;refine jR<|jC (Ui _ _ _ _ _ _ a1 hD aW hL hFG) ?_;rintro vv cd ⟨ay,a9,am,az,aA⟩;replace K0:=K0.ext aV;rcases aA with aA|aA
  ·obtain⟨bE,an,aH,ao,rfl,a4,a5,bF,bG,bH,bI,bJ,bK⟩:=aA
   have bL:=Bd K0.size bG;have bM:=Bd K0.size bH;have ba:¬ay ad:=am.not aW a1.lt;have bN:∀q_,ay q_->q_<w.heap.size->F q_:=am.inS (fun q_ h_ _=>h_) K0.size;have bO:∀q_,ay q_->7<=q_:=fun q_ h_=>(am q_ h_).elim (hFG q_) (fun h2_=>Aaa hLs (Aaa K0.size h2_));replace K0:=K0.trans az (fun x hlt hx=>(fun q_ h_ _=>h_) x hx hlt);clear am;refine jG ?_;refine Ai.condF rfl ?_;refine jG ?_;replace hL:=hL.keep az hFG;replace a1:=a1.keep az aW;refine jR<|jC (Ug _ _ _ _ _ _ a1 a9 ba hL) ?_;rintro _ ce ⟨aI,bb,rfl,a7,bc,ap⟩;have bP:=Ah bc a9.oL;clear bc;have hsl:=E1 (Ar room (Bp pl freshN)).2.2;replace a9:=a9.ext ap;have hlen2:=a9.ok.len;refine jG ?_;replace hL:=hL.ext ap;replace a1:=a1.ext ap;replace a4:=a4.ext ap;replace a5:=a5.ext ap;replace K0:=K0.ext ap;refine Ai.loop (ι:=Nat) (fun i ρ' w'=>∃Fk:Nat->Prop,Holds ρ' [(0,jp d),(8,jp ad),(9,.slice an ((ao.map RB.h).length) aH),(44,.slice aI ((AQ ((Ar room (Bp pl freshN)).2.2)).length) bb),(45,.int .i64 (((AQ ((Ar room (Bp pl freshN)).2.2)).length:Nat):Int)),(46,.int .i64 ((i:Nat):Int)),(7,.int .i64 0)]∧Ad F w w'∧(A2 w')∧(AB w' ad [jp d] 161)∧(Af w' 98 an aH (ao.map RB.h))∧(BJ w' ao)∧(Af w' 3 aI bb (AQ ((Ar room (Bp pl freshN)).2.2)))∧(AG w' d Fk room (CD (Ar room (Bp pl freshN)).2.2 ((AQ (Ar room (Bp pl freshN)).2.2).take i)))∧(¬Fk ad)∧(∀q_,Fk q_->¬own an q_)∧(∀q_,Fk q_->¬Bi ao q_)∧(∀q_,Fk q_->¬own aI q_)∧(∀q_,Fk q_->q_<w.heap.size->F q_)∧(∀q_,Fk q_->7<=q_)∧(i<=(AQ (Ar room (Bp pl freshN)).2.2).length)) (fun i=>(AQ (Ar room (Bp pl freshN)).2.2).length-i) 0 ?_ ?_
   ·rw[show CD (Ar room (Bp pl freshN)).2.2 ((AQ (Ar room (Bp pl freshN)).2.2).take 0)=(Ar room (Bp pl freshN)).2.2 by rw[AaE,HT]]
    refine⟨_,⟨rfl,rfl,rfl,rfl,rfl,rfl,rfl,trivial⟩,K0,hL,a1,a4,a5,a7,a9,ba,(Zf bJ),(Zf bK),(Zf bP),bN,bO,?_⟩
    ·omega
   clear a1 a9 a4 a5 a7;clear K0;rintro i cf cg ⟨Fk,be,K0,hL,a1,a4,a5,a7,aB,aX,aY,aZ,bg,b0,bh,hi⟩ ih2;obtain⟨ρ₀,rfl⟩:=be.ex;clear be;refine jG ?_;refine jF ?_ ?_
   ·intro hc47
    obtain⟨ch,ci,n,hn,cj,ck⟩:=a7.sl.eo i;have hnm:=BY n;refine jG ?_;refine jR<|jC (CI n _ hL) ?_;rintro _ cm ⟨rfl,ae⟩;replace aB:=aB.ext ae;refine jR<|jC (EE (NR aB (Am n) (by first|omega|decide)) (Ee (Dp (CF.1 (Aan hn)).1 (CF.1 (Aan hn)).2.1) (L3 (CF.1 (Aan hn)).2.2)) rfl) ?_;rintro _ cn ⟨aq,rfl,bQ,af,ar⟩;replace a1:=a1.ext ae;have bR:¬aq ad:=af.not aX a1.lt;replace a4:=a4.ext ae;have bS:∀q_,aq q_->¬own an q_:=af.apart aY a4.oL;replace a5:=a5.ext ae;have bT:∀q_,aq q_->¬Bi ao q_:=af.apart aZ a5.oL;replace a7:=a7.ext ae;have bU:∀q_,aq q_->¬own aI q_:=af.apart bg a7.oL;replace K0:=K0.ext ae;have bV:∀q_,aq q_->q_<w.heap.size->F q_:=af.inS b0 K0.size;have bW:∀q_,aq q_->7<=q_:=fun q_ h_=>(af q_ h_).elim (bh q_) (fun h2_=>Aaa hLs (Aaa K0.size h2_));replace K0:=K0.trans ar (fun x hlt hx=>b0 x hx hlt);clear af;refine jG ?_;refine Ai.condF rfl ?_;refine jG ?_;refine jV (Az (c:=((i+1:Nat):Int)) (Au rfl rfl Zo Zo) rfl) ?_;refine jG ?_;have e:=L2 (pl:=(Ar room (Bp pl freshN)).2.2) hn;refine ih2 (i+1) _ _ ?_ Zo;rw[e];replace hL:=(hL.ext ae).keep ar bh;replace a1:=a1.keep ar aX;replace a4:=a4.kO ar (Zf aY);replace a5:=a5.kO ar (Zf aZ);replace a7:=a7.kO ar (Zf bg);refine⟨_,⟨rfl,rfl,rfl,rfl,rfl,rfl,rfl,trivial⟩,K0,hL,a1,a4,a5,a7,bQ,bR,bS,bT,bU,bV,bW,?_⟩
    ·omega
   ·intro hc47
    refine jG ?_;refine Ai.ret3 (v:=jp ad) (x:= .slice an ((ao.map RB.h).length) aH) (y:= .int .i64 0) func59 rfl rfl rfl rfl ?_;have hie:i=(AQ (Ar room (Bp pl freshN)).2.2).length:=by omega
    subst hie;rw[Aas]at aB;have hEq:A1 room pl=(0,(Ar room (Bp pl freshN)).2.1,CD (Ar room (Bp pl freshN)).2.2 (AQ (Ar room (Bp pl freshN)).2.2)):=by rw[A1,if_pos bE]
    rw[hEq];exact⟨_,rfl,Fk,aB,A7 b0,K0,.inl ⟨rfl,an,aH,_,ad,rfl,a1,aX,by omega,a4,a5,bF,bL,bM,bI,(Zf aY),(Zf aZ)⟩⟩
  ·obtain⟨b1,rfl⟩:=aA
   have bX:∀q_,ay q_->q_<w.heap.size->F q_:=am.inS (fun q_ h_ _=>h_) K0.size;replace K0:=K0.trans az (fun x hlt hx=>(fun q_ h_ _=>h_) x hx hlt);clear am;refine jG ?_;replace hL:=hL.keep az hFG;refine jF ?_ ?_
   ·intro hc41
    refine jG ?_;refine Ai.ret3 (v:= .pointer none) (x:= .slice none 0 0) (y:= .int .i64 ((Ar room (Bp pl freshN)).1)) func59 rfl rfl rfl rfl ?_;have hEq:A1 room pl=((Ar room (Bp pl freshN)).1,[],(Ar room (Bp pl freshN)).2.2):=by rw[A1,if_neg b1]
    rw[hEq];exact⟨_,rfl,ay,a9,A7 bX,K0,.inr ⟨b1,rfl⟩⟩
   ·intro hc41
    exact absurd hc41 b1
end Go.Proofs.YtjkaicjmfgekjaaGreatDoor
namespace Go.Proofs.YtjkaicjmfgekjaaGreatDoor
open Go.Proofs.Tryz
attribute [local irreducible] RD RS AA RL RA RT Cz Ai
theorem Uj (i:Nat)(h:i<=8):128^(9-i)=128*128^(9-(i+1)):=by
 rw[show 9-i=(9-(i+1))+1 by omega,Nat.pow_succ,Abb]
theorem Uk (n p:Nat):n%128*p+n/128*(128*p)=n*p:=by
 rw[<-Nat.mul_assoc,<-Aa6]
 congr 1
 omega
theorem XK (n:Nat):(UInt8.ofNat (n%128+128)).toNat=n%128+128:=by rw[UInt8.toNat_ofNat'];omega
theorem Yq {n:Nat}(h:n<128):(UInt8.ofNat n).toNat=n:=by rw[UInt8.toNat_ofNat'];omega
theorem numL_vput : ∀ (n i acc : Nat) (rest : List UInt8), i <= 8 -> n < 128 ^ (9 - i) -> (i = 0 ∨ 0 < n) -> B1 i acc (Aq n ++ rest) = .ok (acc + n * 2 ^ (7 * i), i + (Aq n).length) := fun n => by
  induction n using Nat.strongRecOn with
  | _ n ih =>
    intro i acc rest hi hn h0
    by_cases c : n < 128
    · rw [Fd c, List.singleton_append]
      have hb := Yq c
      rw [B1, if_neg Zo, if_pos Zo, if_neg Zo, hb, Nat.mod_eq_of_lt c]
      simp
    · have hi8 : i ≠ 8 := by
        intro e
        subst e
        exact c (by simpa using hn)
      have hb := XK n
      rw [Ih c, Abm, B1, if_neg Zo, if_neg Zo]
      rw [Uj i hi] at hn
      rw [ih (n / 128) Zo (i + 1) _ rest Zo Zo (.inr Zo), hb, show (n % 128 + 128) % 128 = n % 128 by omega, IU, Abr, Uk]
      simp only [Aaj]
      congr 2
      omega
theorem numL_pre : ∀ (n i acc m : Nat), i <= 8 -> n < 128 ^ (9 - i) -> m < (Aq n).length -> B1 i acc ((Aq n).take m) = .error 2 := fun n => by
  induction n using Nat.strongRecOn with
  | _ n ih =>
    intro i acc m hi hn hm
    cases m with
    | zero => rw [AaE, B1]
    | succ m =>
      by_cases c : n < 128
      · rw [Fd c] at hm; simp at hm
      · have hi8 : i ≠ 8 := by
          intro e
          subst e
          exact c (by simpa using hn)
        have hb := XK n
        rw [Ih c] at hm ⊢
        rw [Abi, B1, if_neg Zo, if_neg Zo]
        rw [Uj i hi] at hn
        exact ih (n / 128) Zo (i + 1) _ m Zo Zo (by simpa using hm)
theorem Wu {s:Nat}(h:s<4294967296):leL (VN s)=s:=by
 simp only[VN,leL,UInt8.toNat_ofNat']
 omega
theorem Ik (s:Nat):(VN s).length=4:=rfl
section
variable {p rest:List UInt8}
theorem L4 (h:p.length<=65536):CM (As p++rest)= .ok (p,rest):=by
 have e:As p++rest=Aq p.length++(p++(VN (Cx p)++rest)):=by simp only[As,Aap]
 have hN:B1 0 0 (As p++rest)= .ok (p.length,(Aq p.length).length):=by
  rw[e,numL_vput _ 0 0 _ Zd (by simp only[Nat.sub_zero];omega) (.inl rfl)];simp
 have d1:(As p++rest).drop (Aq p.length).length=p++(VN (Cx p)++rest):=by rw[e,AbI]
 have d2:(As p++rest).drop ((Aq p.length).length+p.length)=VN (Cx p)++rest:=by rw[<-Aa5,d1,AbI]
 have d3:(As p++rest).drop ((Aq p.length).length+p.length+4)=rest:=by rw[<-Aa5,d2];exact List.drop_left' (Ik _)
 have hl:(As p++rest).length=(Aq p.length).length+(p.length+(4+rest.length)):=by rw[e];simp only[Aab,Ik]
 have t1:((As p++rest).drop (Aq p.length).length).take p.length=p:=by rw[d1,Abt]
 have t2:((As p++rest).drop ((Aq p.length).length+p.length)).take 4=VN (Cx p):=by rw[d2];exact List.take_left' (Ik _)
 have:=QU hN Zo Zo (by rw[t2,t1,Wu (QR p)])
 rw[this,t1,d3]
theorem frameB_ne :As p≠ []:=by
 intro e
 have:=congrArg List.length e
 simp only[As,Aab,Ik,Aar]at this
 omega
theorem Wv {m:Nat}(h:p.length<=65536)(hm:m<(As p).length):∃e,CM ((As p).take m)= .error e:=by
 have e:As p=Aq p.length++(p++VN (Cx p)):=by simp only[As,Aap]
 have hl:(As p).length=(Aq p.length).length+(p.length+4):=by rw[e];simp only[Aab,Ik]
 by_cases c:m<(Aq p.length).length
 ·refine⟨2,NU ?_⟩
  rw[e,Abw Zo]
  exact numL_pre _ 0 0 m Zd (by simp only[Nat.sub_zero];omega) c
 ·refine⟨2,?_⟩
  have hN:B1 0 0 ((As p).take m)= .ok (p.length,(Aq p.length).length):=by
   rw[e,List.take_append,AaA Zo,numL_vput _ 0 0 _ Zd (by simp only[Nat.sub_zero];omega) (.inl rfl)];simp
  exact Ky hN Zo Zt
end
theorem frames_app : ∀ (ps : List (List UInt8)) (rest : List UInt8), (∀ p ∈ ps, p.length <= 65536) -> AR (ps.flatMap As ++ rest) = (ps ++ (AR rest).1, (AR rest).2)
  | [], rest, _ => by simp
  | p :: ps, rest, h => by
    have hp := h p Zs
    rw [AaV, Aap, Gy (by simp [frameB_ne]) (L4 hp), frames_app ps rest fun q hq => h q (by simp [hq])]
    rfl
theorem Pz (ps:List (List UInt8))(h:∀p∈ps,p.length<=65536):AR (ps.flatMap As)=(ps,[]):=by
 have:=frames_app ps [] h
 rw[Aaw,framesR_nil,Aaw]at this
 exact this
theorem steps_all : ∀ (ps acc : List (List UInt8)), (∀ p ∈ ps, p ≠ []) -> ps.foldl Fh acc = acc ++ ps
  | [], acc, _ => by simp
  | p :: ps, acc, h => by
    rw [AaI, Fh, if_neg (h p Zs), steps_all ps _ fun q hq => h q (by simp [hq])]
    simp
attribute [local irreducible] crcN CH Cx F8 B1 leL CM Am AQ DY D7 EO Ff DH Ar Ck As
def Ul (w:World)(rs:List RB):Prop:=∀r∈rs,Av w r.a r.b
theorem Ul.ext {w w':World}{rs:List RB}(h:Ul w rs)(k:Ap w w'):Ul w' rs:=fun r hr=>(h r hr).ext k
theorem Um {rs:List RB}{j:Nat}{s:SH}(hs:(rs.map RB.h)[j]? =some s):∃r,rs[j]? =some r∧s=r.h∧r∈rs:=by
 rw[Aax,Abp]at hs
 obtain⟨r,hr,rfl⟩:=hs
 exact⟨r,hr,rfl,Aan hr⟩
end Go.Proofs.YtjkaicjmfgekjaaGreatDoor
namespace Go.Proofs.YtjkaicjmfgekjaaGreatDoor
open Go.Proofs.Tryz
attribute [local irreducible] RD RS AA RL RA RT Cz Ai crcN CH Cx F8 B1 leL CM Am AQ DY D7 EO Ff DH Ar Ck As
theorem segsL_nil :AQ []=[]:=by
 unfold AQ D7
 have:A3 []=[]:=by simp[A3,BG]
 rw[this];exact sortZ_nil
theorem name1_may :CK (Am 1)=true:=Dp Zd Zd
theorem N7 (room:Int):Ar room []=(0,[],[]):=by unfold Ar;rw[segsL_nil];rfl
theorem KI (room:Int):A1 room []=(0,[],[]):=by
 have e:Bp [] freshN=[]:=rfl
 rw[A1,e,N7,if_pos rfl,segsL_nil,HT]
theorem Sk {b:List UInt8}(h0:0<b.length)(h1:b.length<=65536):Ck b=0:=by unfold Ck;rw[if_neg (Dv h0),if_neg Zo]
theorem Z3 (room:Int)(w:World)(h:0<=room∧room<=16777216):Calls prog 25 #[.int .i64 room] w (AN fun v w'=>∃d F,v= .tuple #[jp d,.int .i64 0]∧AG w' d F room []∧(∀q,F q->w.heap.size<=q)∧Ap w w'):=
 Eb (gE room w) fun v w' hh=>hh.elim (fun h1=>absurd h h1.1) (fun h1=>h1.2)
end Go.Proofs.YtjkaicjmfgekjaaGreatDoor
namespace Go.Proofs.YtjkaicjmfgekjaaGreatDoor
open Go.Proofs.Tryz
attribute [local irreducible] RD RS AA RL RA RT Cz Ai crcN CH Cx F8 B1 leL CM Am AQ DY D7 EO Ff DH Ar Ck As
end Go.Proofs.YtjkaicjmfgekjaaGreatDoor
namespace Go.Proofs.YtjkaicjmfgekjaaGreatDoor
open Go.Proofs.Tryz
attribute [local irreducible] RD RS AA RL RA RT Cz Ai crcN CH Cx F8 B1 leL CM Am AQ DY D7 EO Ff DH Ar Ck As
def Hz (i:Nat)(rs:List (List UInt8))(s:Nat):PF:=⟨Am (i:Int),rs.flatMap As,s⟩
def CJ (rs:List (List UInt8)):Nat:=(rs.flatMap As).length
def doneL :Nat->List (List (List UInt8))->List PF
 |_,[]=>[]
 |i,rs::t=>Hz i rs (CJ rs)::doneL (i+1) t
def HU (i:Nat)(c:List (List UInt8))(s:Nat):List PF:=if c=[]then[]else[Hz i c s]
def Dw (D:List (List (List UInt8)))(c:List (List UInt8))(s:Nat):List PF:=doneL 1 D++HU (D.length+1) c s
def CE (D:List (List (List UInt8)))(c:List (List UInt8)):Nat:=D.length+if c=[]then 0 else 1
theorem doneL_app : ∀ (D : List (List (List UInt8))) (i : Nat) (rs : List (List UInt8)), doneL i (D ++ [rs]) = doneL i D ++ [Hz (i + D.length) rs (CJ rs)]
  | [], i, rs => by simp [doneL]
  | x :: D, i, rs => by
    rw [Abm, doneL, doneL, doneL_app D (i + 1) rs, Abm, Aaj, show i + 1 + D.length = i + (D.length + 1) by omega]
theorem doneL_len :∀(D:List (List (List UInt8))) (i:Nat),(doneL i D).length=D.length
 |[],_=>rfl
 |x::D,i=>by rw[doneL,Aaj,doneL_len D,Aaj]
theorem doneL_mem : ∀ {D : List (List (List UInt8))} {i : Nat} {f : PF}, f ∈ doneL i D -> ∃ k rs, k < D.length ∧ D[k]? = some rs ∧ f = Hz (i + k) rs (CJ rs)
  | [], _, _, h => by cases h
  | x :: D, i, f, h => by
    rw [doneL] at h
    rcases List.mem_cons.1 h with rfl | h
    · exact ⟨0, x, by simp, rfl, rfl⟩
    · obtain ⟨k, rs, h1, h2, h3⟩ := doneL_mem h
      exact ⟨k + 1, rs, by simp; omega, by simpa using h2, by rw [h3, show i + 1 + k = i + (k + 1) by omega]⟩
theorem doneL_get : ∀ {D : List (List (List UInt8))} {i k : Nat} {rs : List (List UInt8)}, D[k]? = some rs -> Hz (i + k) rs (CJ rs) ∈ doneL i D
  | [], _, _, _, h => by simp at h
  | x :: D, i, 0, rs, h => by
    simp at h; subst h
    rw [doneL]; simp
  | x :: D, i, k + 1, rs, h => by
    rw [doneL]
    have := doneL_get (i := i + 1) (k := k) (by simpa using h)
    rw [show i + 1 + k = i + (k + 1) by omega] at this
    exact AaB _ this
section
variable {D :List (List (List UInt8))}{c:List (List UInt8)}{s:Nat}
theorem N8 {f:PF}(h:f∈Dw D c s):∃k:Nat,1<=k∧k<=CE D c∧f.name=Am (k:Int):=by
 rw[Dw]at h
 rcases List.mem_append.1 h with h|h
 ·obtain⟨k,rs,h1,h2,rfl⟩:=doneL_mem h
  exact⟨1+k,by omega,by rw[CE];omega,rfl⟩
 ·rw[HU]at h
  split at h
  ·cases h
  ·rename_i hc
   simp only[Aah]at h
   subst h
   exact⟨D.length+1,by omega,by rw[CE,if_neg hc];omega,rfl⟩
theorem N9 {k:Nat}(h1:1<=k)(h2:k<=CE D c):Cs (Dw D c s) (Am (k:Int))=true:=by
 by_cases hk:k<=D.length
 ·obtain⟨rs,hr⟩:∃rs,D[k-1]? =some rs:=⟨_,List.getElem?_eq_getElem Zo⟩
  have:=doneL_get (i:=1) hr
  rw[show 1+(k-1)=k by omega]at this
  exact Bg.2 ⟨_,AaM _ this,rfl⟩
 ·have hc:c≠ []:=fun e=>by rw[CE,if_pos e]at h2;omega
  rw[CE,if_neg hc]at h2
  have:k=D.length+1:=by omega
  subst this
  exact Bg.2 ⟨Hz (D.length+1) c s,AaP _ (by rw[HU,if_neg hc];simp),rfl⟩
theorem Il {i j:Nat}(h1:1<=i)(h2:i<=999999999)(h3:1<=j)(h4:j<=999999999)(e:Am (i:Int)=Am (j:Int)):i=j:=by
 have:=G3 (n:=(i:Int)) (m:=(j:Int)) Zo Zo Zo Zo e
 omega
theorem done_nodup : ∀ (D : List (List (List UInt8))) (i : Nat), 1 <= i -> i + D.length <= 999999999 -> ((doneL i D).map (·.name)).Nodup
  | [], _, _, _ => by simp [doneL]
  | x :: D, i, h1, h2 => by
    rw [doneL, Aae, AaR]
    simp only [Aaj] at h2
    refine ⟨fun h => ?_, done_nodup D (i + 1) Zo Zo⟩
    obtain ⟨f, hf, e⟩ := List.mem_map.1 h
    obtain ⟨k, rs, hk, _, rfl⟩ := doneL_mem hf
    have := Il Zo Zo h1 Zo (show Am ((i + 1 + k : Nat) : Int) = Am (i : Int) from e)
    omega
theorem KJ (h:CE D c<=999999998):((Dw D c s).map (·.name)).Nodup:=by
 have hD:D.length<=CE D c:=by rw[CE];omega
 rw[Dw,Aam,Abd]
 refine⟨done_nodup D 1 Zd Zo,?_,?_⟩
 ·rw[HU];split<;>simp
 ·intro a ha b hb e
  subst e
  rw[HU]at hb
  split at hb
  ·simp at hb
  ·rename_i hc
   rw[CE,if_neg hc]at h
   obtain⟨f,hf,rfl⟩:=List.mem_map.1 ha
   obtain⟨k,rs,hk,_,rfl⟩:=doneL_mem hf
   simp only[Aae,Aau,Aah]at hb
   have:=Il Zo Zo Zo Zo (show Am ((1+k:Nat):Int)=Am ((D.length+1:Nat):Int)from hb)
   omega
theorem L5 {l m:List Int}(h1:l.Pairwise (·<·))(h2:m.Pairwise (·<·))(h:∀x,x∈l↔x∈m):l=m:=
 sorted_unique ((List.perm_ext_iff_of_nodup (h1.imp fun{a b} h e=>by omega) (h2.imp fun{a b} h e=>by omega)).2 h) (h1.imp fun h=>by omega) (h2.imp fun h=>by omega)
def ZF (n:Nat):List Int:=(List.range n).map fun k=>((k+1:Nat):Int)
theorem Un (n:Nat):(ZF n).Pairwise (·<·):=by
 rw[ZF,Acf]
 exact List.pairwise_lt_range.imp fun h=>by omega
theorem Ww {n:Nat}{x:Int}:x∈ZF n↔1<=x∧x<=n:=by
 rw[ZF,Aaf]
 constructor
 ·rintro⟨k,hk,rfl⟩
  have:=List.mem_range.1 hk
  omega
 ·rintro⟨h1,h2⟩
  exact⟨x.toNat-1,List.mem_range.2 Zo,by omega⟩
theorem Uo (h:CE D c<=999999998):AQ (Dw D c s)=ZF (CE D c):=by
 refine L5 (HQ (KJ h)) (Un _) fun x=> ?_
 rw[CF,Ww]
 constructor
 ·rintro⟨h1,h2,h3⟩
  obtain⟨f,hf,e⟩:=Bg.1 h3
  obtain⟨k,k1,k2,e2⟩:=N8 hf
  have:=G3 (n:=(k:Int)) (m:=x) Zo Zo h1 h2 (e2.symm.trans e)
  omega
 ·rintro⟨h1,h2⟩
  refine⟨h1,by omega,?_⟩
  have:=N9 (D:=D) (c:=c) (s:=s) (k:=x.toNat) Zo Zo
  rwa[show((x.toNat:Nat):Int)=x by omega]at this
theorem Oa (h:CE D c<=999999998):Bj (Dw D c s)=((CE D c:Nat):Int):=by
 rw[Bj,Uo h,ZF]
 rcases Nat.eq_zero_or_pos (CE D c)with h0|h0
 ·rw[h0];rfl
 ·obtain⟨n,hn⟩:∃n,CE D c=n+1:=⟨CE D c-1,by omega⟩
  rw[hn,List.range_succ,Aam];simp
theorem Up (h:CE D c<=999999998)(hc:c≠ []):Ci (Dw D c s) (Am ((D.length+1:Nat):Int))=some (Hz (D.length+1) c s):=
 Eo (KJ h) (f:=Hz (D.length+1) c s) (AaP _ (by rw[HU,if_neg hc];simp))
theorem Ob (a b:List PF)(n:ByteArray)(u:PF->PF):DF (a++b) n u=DF a n u++DF b n u:=by rw[DF,Aam];rfl
theorem Oc {pl:List PF}{n:ByteArray}{u:PF->PF}(h:∀f∈pl,f.name≠n):DF pl n u=pl:=by
 rw[DF]
 refine(AaF fun f hf=>if_neg (h f hf)).trans (List.map_id _)
theorem QZ (h:CE D c<=999999998)(hc:c≠ []):∀f∈doneL 1 D,f.name≠Am ((D.length+1:Nat):Int):=by
 intro f hf e
 rw[CE,if_neg hc]at h
 obtain⟨k,rs,hk,_,rfl⟩:=doneL_mem hf
 have:=Il Zo Zo Zo Zo (show Am ((1+k:Nat):Int)=Am ((D.length+1:Nat):Int)from e)
 omega
theorem Q0 (h:CE D c<=999999998)(hc:c≠ [])(u:PF->PF):DF (Dw D c s) (Am ((D.length+1:Nat):Int)) u=doneL 1 D++[u (Hz (D.length+1) c s)]:=by
 rw[Dw,Ob,Oc (QZ h hc),HU,if_neg hc]
 simp[DF,Hz]
theorem Od (h:CE D c<=999999998)(hc:c≠ []):Cd (Dw D c s) (Am ((D.length+1:Nat):Int))=Dw D c (CJ c):=by
 rw[Cd,Q0 h hc,Dw,HU,if_neg hc];rfl
def HC (D:List (List (List UInt8)))(c:List (List UInt8)):Nat:=CJ (D.flatten++c)
theorem Im (a b:List (List UInt8)):CJ (a++b)=CJ a+CJ b:=by rw[CJ,CJ,CJ,Ach,Aab]
theorem used_done : ∀ (D : List (List (List UInt8))) (i : Nat), AX (doneL i D) = CJ D.flatten
  | [], _ => rfl
  | x :: D, i => by
    have := used_done D (i + 1)
    rw [AX] at this
    rw [doneL, AX, Aae, Aa1, this, Aci, Im]; rfl
theorem used_log :AX (Dw D c s)=HC D c:=by
 have h1:=used_done D 1
 rw[AX]at h1
 rw[Dw,AX,Aam,List.sum_append_nat,h1,HC,Im,HU]
 split
 ·rename_i hc;subst hc;rfl
 ·simp[Hz,CJ]
theorem logL_len :(Dw D c s).length=CE D c:=by
 rw[Dw,Aab,doneL_len,CE,HU]
 split<;>rfl
theorem Yr (h:CE D c<=999999998){k:Nat}(hk:CE D c<k)(hk2:k<=999999999):Cs (Dw D c s) (Am (k:Int))=false:=by
 rw[Acb];intro hh
 obtain⟨f,hf,e⟩:=Bg.1 hh
 obtain⟨j,j1,j2,e2⟩:=N8 hf
 have:=Il Zo Zo Zo Zo (e2.symm.trans e)
 omega
theorem Hk {room:Int}{pl:List PF}{n:ByteArray}{b:List UInt8}(hm:CK n=true)(hl:Cs pl n=true∨pl.length<64)(hr:(b.length:Int)<=room-(AX pl:Int)):De room pl n b=0:=by
 rw[De,if_pos hm,if_neg]
 rintro(⟨h1,h2⟩|h)
 ·rcases hl with h3|h3
  ·rw[h3]at h1;cases h1
  ·omega
 ·omega
def Oe (D:List (List (List UInt8)))(c:List (List UInt8))(s:Nat)(b:List UInt8):List (List (List UInt8))×List (List UInt8)×Nat:=
 if c=[]then(D,[b],0)else if 4096<=CJ c then(D++[c],[b],0)else(D,c++[b],s)
theorem PA {room:Int}{b:List UInt8}(h0:0<b.length)(h1:b.length<=65536)(hcnt:CE D c<=60)(hD:c=[]->D=[])(hr:((As b).length:Int)<=room-(HC D c:Int)):
  Ay room (Dw D c s) b=(0,Dw (Oe D c s b).1 (Oe D c s b).2.1 (Oe D c s b).2.2):=by
 have hm:=Sk h0 h1
 have hlast:=Oa (s:=s) (D:=D) (c:=c) Zo
 rw[Ay,if_neg (by rw[hm];decide),hlast,Oe]
 by_cases hc:c=[]
 ·have hD0:=hD hc
  subst hc;subst hD0
  have e0:Dw [] [] s=[]:=rfl
  have en:Am (max ((0:Nat):Int) 1)=Am 1:=rfl
  have hE:De room [] (Am 1) (As b)=0:=Hk name1_may (.inr Zd) (by rw[show HC [] []=0 from rfl]at hr;simpa[AX]using hr)
  rw[e0]
  have e1:CE [] []=0:=rfl
  rw[if_neg (by rw[e1];omega),if_pos rfl,e1,if_neg Zd,en,hE,Df,hE,if_pos rfl]
  simp[Cs,Dw,doneL,HU,Hz]
 ·have hcn:CE D c=D.length+1:=by rw[CE,if_neg hc]
  have hsz:CY (Dw D c s) (Am ((CE D c:Nat):Int))=CJ c:=by rw[hcn,CY,Up Zo hc];rfl
  rw[if_neg hc,hsz]
  by_cases hb:4096<=CJ c
  ·rw[if_pos ⟨by omega,hb⟩,if_pos hb,if_neg Zo,show max (((CE D c:Nat):Int)+1) 1=((CE D c+1:Nat):Int)by omega,hcn,Od Zo hc]
   have hno:Cs (Dw D c (CJ c)) (Am ((D.length+1+1:Nat):Int))=false:=Yr Zo Zo Zo
   have hE:De room (Dw D c (CJ c)) (Am ((D.length+1+1:Nat):Int)) (As b)=0:=Hk (Dp Zo Zo) (.inr (by rw[logL_len];omega)) (by rw[used_log];exact hr)
   rw[hE,Df,hE,if_pos rfl,hno,if_neg Zd]
   congr 1
   rw[Dw,Dw,HU,if_neg hc,doneL_app,HU,if_neg Zs,AbH 1 D.length]
   simp[Hz,CJ]
  ·rw[if_neg Zo,if_neg hb,if_neg Zo,show max ((CE D c:Nat):Int) 1=((CE D c:Nat):Int)by omega,hcn]
   have hhas:Cs (Dw D c s) (Am ((D.length+1:Nat):Int))=true:=N9 Zo Zo
   have hE:De room (Dw D c s) (Am ((D.length+1:Nat):Int)) (As b)=0:=Hk (Dp Zo Zo) (.inl hhas) (by rw[used_log];exact hr)
   rw[hE,Df,hE,if_pos rfl,hhas,if_pos rfl,Q0 Zo hc,Dw,HU,if_neg Zs]
   simp[Hz,Ach]
theorem Uq {room:Int}{pl:List PF}{b:List UInt8}{n:Int}(h1:1<=n)(h2:n<=999999999)(hf:Cs pl freshN=false)(hl:pl.length<64)(hr:(b.length:Int)<=room-(AX pl:Int)):
  C6 room pl b n=(0,Bp pl (Am n)++[⟨Am n,b,b.length⟩]):=by
 have hE:De room pl freshN b=0:=Hk fresh_may (.inr hl) hr
 have hA:Df room pl freshN b=pl++[⟨freshN,b,0⟩]:=by rw[Df,hE,if_pos rfl,hf,if_neg Zd]
 have hno:∀f∈pl,f.name≠freshN:=fun f hf2 e=>by rw[Bg.2 ⟨f,hf2,e⟩]at hf;cases hf
 have hS:Cd (pl++[⟨freshN,b,0⟩]) freshN=pl++[⟨freshN,b,b.length⟩]:=by rw[Cd,Ob,Oc hno];simp[DF]
 have hh:∀s,Cs (pl++[⟨freshN,b,s⟩]) freshN=true:=fun s=>Bg.2 ⟨_,AaP _ (List.mem_singleton.2 rfl),rfl⟩
 have hlk:Ci (pl++[⟨freshN,b,b.length⟩]) freshN=some ⟨freshN,b,b.length⟩:=by
  rw[Ci,List.find?_append]
  have:pl.find? (fun f=>decide (f.name=freshN))=none:=List.find?_eq_none.2 fun f hf2=>by simpa using hno f hf2
  rw[this];simp
 have hR:ET (pl++[⟨freshN,b,b.length⟩]) freshN (Am n)=0:=by rw[ET,if_pos fresh_may,if_pos (Dp h1 h2),hh,if_pos rfl]
 rw[C6,if_pos hE,hA,if_pos (Ee fresh_may (hh 0)),hS,hR,Hy,hR,if_pos rfl,hlk]
 congr 1
 have hr1:Bp (pl++[⟨freshN,b,b.length⟩]) freshN=pl:=by
  rw[Bp,Abz]
  have:pl.filter (fun f=>decide (f.name≠freshN))=pl:=by rw[Abq];intro f hf2;simpa using hno f hf2
  rw[this];simp
 simp only
 rw[hr1]
end
def EP (i n:Nat):List Int:=(List.range' i n).map fun k=>((k:Nat):Int)
theorem L6 (i n:Nat):EP i (n+1)=(i:Int)::EP (i+1) n:=by rw[EP,List.range'_succ];rfl
theorem Ur (i n:Nat):(EP i n).length=n:=by rw[EP,Aad,List.length_range']
theorem L7 (i n:Nat):EP i (n+1)=EP i n++[((i+n:Nat):Int)]:=by rw[EP,EP,List.range'_1_concat,Aam];rfl
theorem In {i n:Nat}{x:Int}:x∈EP i n↔(i:Int)<=x∧x<((i+n:Nat):Int):=by
 rw[EP,Aaf]
 constructor
 ·rintro⟨k,hk,rfl⟩
  rw[List.mem_range'_1]at hk
  omega
 ·rintro⟨h1,h2⟩
  exact⟨x.toNat,by rw[List.mem_range'_1];omega,by omega⟩
theorem L8 (i n:Nat):(EP i n).Pairwise (·<·):=by
 rw[EP,Acf]
 exact(List.pairwise_lt_range' ..).imp fun h=>by omega
def Gc (i n:Nat)(pl:List PF):Prop:=pl.map (·.name)=(EP i n).map Am
theorem MY {pl:List PF}{s:ByteArray}:Cs pl s=true↔s∈pl.map (·.name):=by
 rw[Bg,Aaf]
section
variable {i n:Nat}{pl:List PF}
theorem Gc.nodup (h:Gc i n pl)(h1:1<=i)(h2:i+n<=999999999):(pl.map (·.name)).Nodup:=by
 rw[h,List.Nodup,Acf]
 refine(L8 i n).imp_of_mem fun{a b} ha hb hlt e=> ?_
 rw[In]at ha hb
 have:=G3 (n:=a) (m:=b) Zo Zo Zo Zo e
 omega
theorem Gc.segs (h:Gc i n pl)(h1:1<=i)(h2:i+n<=999999999):AQ pl=EP i n:=by
 refine L5 (HQ (h.nodup h1 h2)) (L8 _ _) fun x=> ?_
 rw[CF,MY,h,Aaf]
 constructor
 ·rintro⟨x1,x2,y,hy,e⟩
  have hy2:=hy
  rw[In]at hy2
  have:=G3 (n:=y) (m:=x) Zo Zo x1 x2 e
  exact this▸hy
 ·intro hx
  have hx2:=hx
  rw[In]at hx2
  exact⟨by omega,by omega,x,hx,rfl⟩
theorem Gc.fresh (h:Gc i n pl):Cs pl freshN=false:=by
 rw[Acb];intro hh
 rw[MY,h,Aaf]at hh
 obtain⟨y,_,e⟩:=hh
 exact L1 _ e
theorem FF (pl:List PF)(ns:List Int):(CD pl ns).map (·.name)=pl.map (·.name):=by
 rw[CD,Aat]
 refine AaF fun f _=> ?_
 simp only[Function.comp]
 split<;>rfl
theorem Jo (pl:List PF)(ns:List Int):(CD pl ns).map (·.bytes)=pl.map (·.bytes):=by
 rw[CD,Aat]
 refine AaF fun f _=> ?_
 simp only[Function.comp]
 split<;>rfl
theorem read_of : ∀ {a b : List PF}, a.map (·.name) = b.map (·.name) -> a.map (·.bytes) = b.map (·.bytes) -> ∀ s, AY a s = AY b s
  | [], [], _, _, s => rfl
  | [], _ :: _, h, _, _ => by cases h
  | _ :: _, [], h, _, _ => by cases h
  | f :: a, g :: b, h1, h2, s => by
    simp only [Aae, List.cons.injEq] at h1 h2
    have ih := read_of h1.2 h2.2 s
    rw [AY, AY, Ci, Ci] at ih ⊢
    rw [Abk, Abk, h1.1]
    split
    · simp [h2.1]
    · exact ih
theorem KK (hn:(pl.map (·.name)).Nodup){f:PF}(hf:f∈pl):AY pl f.name=f.bytes:=by rw[AY,Eo hn hf];rfl
def Whole (pl:List PF):List Int->List (List (List UInt8))->Prop
 |[],[]=>True
 |n::r,rs::t=>AY pl (Am n)=rs.flatMap As∧(∀p∈rs,p.length<=65536)∧Whole pl r t
 |_,_=>False
theorem Whole.same {pl':List PF}(e:∀s,AY pl' s=AY pl s):∀{ns:List Int} {R:List (List (List UInt8))},Whole pl ns R->Whole pl' ns R
 |[],[],_=>trivial
 |n::r,rs::t,h=>⟨(e _).trans h.1,h.2.1,Whole.same e h.2.2⟩
 |[],_::_,h=>h.elim
 |_::_,[],h=>h.elim
theorem Whole.app :∀{ns ms:List Int} {R T:List (List (List UInt8))},Whole pl ns R->Whole pl ms T->Whole pl (ns++ms) (R++T)
 |[],_,[],_,_,h2=>h2
 |n::r,_,rs::t,_,h,h2=>⟨h.1,h.2.1,Whole.app h.2.2 h2⟩
 |[],_,_::_,_,h,_=>h.elim
 |_::_,_,[],_,h,_=>h.elim
theorem G5 {room : Int} : ∀ {ns : List Int} {R : List (List (List UInt8))}, Whole pl ns R -> ∀ (more : List Int) (acc : List (List UInt8)), Dk room pl (ns ++ more) acc = Dk room pl more (R.flatten.foldl Fh acc)
  | [], [], _, more, acc => rfl
  | n :: r, rs :: t, h, more, acc => by
    obtain ⟨h1, h2, h3⟩ := h
    have hf := Pz rs h2
    rw [Abm, Dk, if_pos (by rw [h1, hf]), h1, hf, G5 h3, Aci, Abf]
  | [], _ :: _, h, _, _ => h.elim
  | _ :: _, [], h, _, _ => h.elim
theorem KL (hn : (pl.map (·.name)).Nodup) : ∀ {l : List PF} {i : Nat} {R : List (List (List UInt8))}, (∀ f ∈ l, f ∈ pl) -> l.map (·.name) = (EP i l.length).map Am -> l.map (·.bytes) = R.map (fun rs => rs.flatMap As) -> (∀ rs ∈ R, ∀ p ∈ rs, p.length <= 65536) -> Whole pl (EP i l.length) R
  | [], i, [], _, _, _, _ => trivial
  | [], i, _ :: _, _, _, h, _ => by cases h
  | _ :: _, i, [], _, _, h, _ => by cases h
  | f :: l, i, rs :: R, hs, h1, h2, h3 => by
    rw [Aaj, L6] at h1 ⊢
    simp only [Aae, List.cons.injEq] at h1 h2
    refine ⟨?_, h3 rs Zs, KL hn (fun g hg => hs g (by simp [hg])) h1.2 h2.2 fun r hr => h3 r (by simp [hr])⟩
    rw [<- h1.1, KK hn (hs f Zs), h2.1]
theorem PB {room:Int}{R:List (List (List UInt8))}(hN:Gc i n pl)(h1:1<=i)(h2:i+n<=999999999)(hW:Whole pl (EP i n) R):A1 room pl=(0,R.flatten.foldl Fh [],CD pl (EP i n)):=by
 have e:Ar room pl=(0,R.flatten.foldl Fh [],pl):=by
  have:=G5 (room:=room) hW [] []
  rw[Aaw]at this
  unfold Ar
  rw[hN.segs h1 h2,this,Dk]
 rw[A1,KH hN.fresh,e,if_pos rfl,hN.segs h1 h2]
end
def MZ (keep:Int)(m:Nat):Nat:=(keep%18446744073709551616).toNat%(m+1)
theorem PC (keep:Int)(m:Nat):MZ keep m<=m:=by
 have:=Aa0 (keep%18446744073709551616).toNat (show 0<m+1 by omega)
 rw[MZ];omega
def Gd (keep:Int)(f:PF):PF:=⟨f.name,f.bytes.take (f.synced+MZ keep (f.bytes.length-f.synced)),(f.bytes.take (f.synced+MZ keep (f.bytes.length-f.synced))).length⟩
def FP (pl:List PF)(keep:Int):List B0:=(A3 pl).map fun n=>⟨n,((MZ keep (CY pl n-Ec pl n):Nat):Int),[]⟩
theorem KN {room : Int} {pl : List PF} {keep : Int} (h : BV room pl) : ∀ (ns : List ByteArray) (seen : List ByteArray), (∀ n ∈ ns, Cs pl n = true) -> ns.Nodup -> (∀ n ∈ ns, ¬ n ∈ seen) -> CA pl (ns.map fun n => (⟨n, ((MZ keep (CY pl n - Ec pl n) : Nat) : Int), []⟩ : B0)) seen = 0
  | [], _, _, _, _ => rfl
  | n :: ns, seen, h1, h2, h3 => by
    obtain ⟨f, hf, rfl⟩ := Bg.1 (h1 n Zs)
    have hl := Eo h.nodup hf
    have hs := h.sync f hf
    have hk := PC keep (f.bytes.length - f.synced)
    rw [Aae, CA, if_pos (h.may f hf), hl]
    simp only
    have e1 : CY pl f.name - Ec pl f.name = f.bytes.length - f.synced := by rw [CY, Ec, hl]; rfl
    rw [if_neg]
    · rw [AaR] at h2
      refine KN h ns _ (fun m hm => h1 m (by simp [hm])) h2.2 fun m hm hm2 => ?_
      rcases List.mem_cons.1 hm2 with e | hm2
      · subst e; exact h2.1 hm
      · exact h3 m (by simp [hm]) hm2
    · rintro (hc | hc)
      · obtain ⟨s, hs2, e⟩ := List.any_eq_true.1 hc
        have : s = f.name := by simpa using e
        subst this
        exact h3 _ Zs hs2
      · rw [e1, EN] at hc
        simp only [Aar, Bool.and_eq_false_iff, decide_eq_false_iff_not] at hc
        omega
theorem Jp {room : Int} {pl : List PF} (keep : Int) (h : BV room pl) : CA pl (FP pl keep) [] = 0 ∧ DO pl (FP pl keep) = pl.map (Gd keep) := by
  have hno : ∀ n, n ∈ A3 pl ↔ Cs pl n = true := fun n => by rw [A3, Cf.mem_iff, MY]
  have he : CA pl (FP pl keep) [] = 0 := KN h _ [] (fun n hn => (hno n).1 hn) (by rw [A3, Cf.nodup_iff]; exact h.nodup) (fun _ _ h => by cases h)
  refine ⟨he, ?_⟩
  rw [DO, if_pos he]
  refine AaF fun f hf => ?_
  have hl := Eo h.nodup hf
  have hm : f.name ∈ A3 pl := (hno _).2 (Bg.2 ⟨f, hf, rfl⟩)
  have hfi : (FP pl keep).find? (fun t => decide (t.name = f.name)) = some ⟨f.name, ((MZ keep (CY pl f.name - Ec pl f.name) : Nat) : Int), []⟩ := by
    rw [FP, List.find?_map]
    have : (A3 pl).find? ((fun t : B0 => decide (t.name = f.name)) ∘ fun n => (⟨n, ((MZ keep (CY pl n - Ec pl n) : Nat) : Int), []⟩ : B0)) = some f.name := by
      generalize A3 pl = l at hm
      induction l with
      | nil => cases hm
      | cons x l ih =>
        rw [Abk]
        by_cases c : x = f.name
        · subst c; simp
        · rcases List.mem_cons.1 hm with e | hm
          · exact absurd e.symm c
          · simp only [Function.comp, decide_eq_false c]
            exact ih hm
    rw [this]; rfl
  rw [C9, hfi]
  have e1 : CY pl f.name - Ec pl f.name = f.bytes.length - f.synced := by rw [CY, Ec, hl]; rfl
  simp only [DW, e1, Ab4, Aaw]
  rfl
theorem frames_torn : ∀ (c : List (List UInt8)) (k : Nat), (∀ p ∈ c, p.length <= 65536) -> ∃ j rest, j <= c.length ∧ AR ((c.flatMap As).take k) = (c.take j, rest) ∧ (c.flatMap As).take k = (c.take j).flatMap As ++ rest ∧ ∀ m, m <= c.length -> CJ (c.take m) <= k -> m <= j
  | [], k, _ => ⟨0, [], Aac _, by simp [framesR_nil], by simp, fun m hm _ => hm⟩
  | p :: c, k, h => by
    have hp := h p Zs
    by_cases hk : (As p).length <= k
    · obtain ⟨j, rest, h1, h2, h3, h4⟩ := frames_torn c (k - (As p).length) fun q hq => h q (by simp [hq])
      have e : ((p :: c).flatMap As).take k = As p ++ (c.flatMap As).take (k - (As p).length) := by
        rw [AaV, List.take_append, AaA hk]
      refine ⟨j + 1, rest, by simp only [Aaj]; omega, ?_, ?_, ?_⟩
      · rw [e, Gy (by simp [frameB_ne]) (L4 hp), h2]; rfl
      · rw [e, h3, Abi, AaV, Aap]
      · intro m hm hl
        cases m with
        | zero => omega
        | succ m =>
          have := h4 m (by simpa using hm) (by
            rw [Abi, CJ, AaV, Aab] at hl
            rw [CJ]; omega)
          omega
    · have e : ((p :: c).flatMap As).take k = (As p).take k := by
        rw [AaV, Abw Zo]
      refine ⟨0, (As p).take k, by omega, ?_, by simpa using e, ?_⟩
      · rw [e]
        by_cases k0 : k = 0
        · subst k0; rw [AaE, framesR_nil]; rfl
        · obtain ⟨er, he⟩ := Wv (p := p) (m := k) hp Zo
          refine G2 (fun e0 => ?_) he
          have := congrArg List.length e0
          rw [List.length_take, Aar] at this
          omega
      · intro m hm hl
        cases m with
        | zero => omega
        | succ m =>
          rw [Abi, CJ, AaV, Aab] at hl
          omega
def HD (syn:Nat)(rs:List (List UInt8))(pl:List PF):Prop:=
 ∃(D:List (List (List UInt8))) (c:List (List UInt8)) (m:Nat),pl=Dw D c (CJ (c.take m))∧D.flatten++c=rs∧(c=[]->D=[])∧CE D c<=rs.length∧m<=c.length∧syn<=D.flatten.length+m
theorem logAt_nil :HD 0 [] []:=⟨[],[],0,rfl,rfl,fun _=>rfl,Aac _,Aac _,Aac _⟩
theorem lenF_le : ∀ {rs : List (List UInt8)}, (∀ p ∈ rs, p.length <= 9100) -> CJ rs <= 9113 * rs.length
  | [], _ => Aac _
  | p :: rs, h => by
    have h1 := h p Zs
    have h2 := lenF_le fun q hq => h q (AaB p hq)
    have h3 := Eu p Zo
    rw [CJ] at h2 ⊢
    rw [AaV, Aab, Aaj]
    omega
section
variable {syn :Nat}{rs:List (List UInt8)}{pl:List PF}
theorem HD.append (h:HD syn rs pl){b:List UInt8}(h0:0<b.length)(h1:b.length<=9100)(hr:rs.length<=50)(hrs:∀p∈rs,p.length<=9100):(Ay 4194304 pl b).1=0∧HD syn (rs++[b]) (Ay 4194304 pl b).2:=by
 obtain⟨D,c,m,rfl,rfl,hD,hcnt,hm,hsyn⟩:=h
 have hf:=Eu b Zo
 have hu:HC D c<=9113*(D.flatten++c).length:=lenF_le hrs
 have:=PA (room:=4194304) (s:=CJ (c.take m)) (b:=b) (D:=D) (c:=c) h0 Zo Zo hD Zo
 rw[this]
 refine⟨rfl,?_⟩
 rw[Oe]
 by_cases c0:c=[]
 ·have d0:=hD c0
  subst c0;subst d0
  rw[if_pos rfl]
  refine⟨[],[b],0,rfl,rfl,(fun h=>by cases h),Aac _,by simp,?_⟩
  simp at hm hsyn
  omega
 ·rw[if_neg c0]
  split
  ·refine⟨D++[c],[b],0,rfl,by simp,(fun h=>by cases h),?_,by simp,?_⟩
   ·rw[CE,if_neg c0]at hcnt
    rw[CE,if_neg Zs]
    simp at hcnt⊢;omega
   ·rw[List.flatten_append,Aab]
    simp only[Aci,List.flatten_nil,Aaw];omega
  ·refine⟨D,c++[b],m,?_,by simp,(fun h=>by simp at h),?_,by simp;omega,hsyn⟩
   ·rw[Abw hm]
   ·rw[CE,if_neg c0]at hcnt
    rw[CE,if_neg Zs]
    simp at hcnt⊢;omega
theorem HD.sync (h:HD syn rs pl)(hr:rs.length<=50):HD rs.length rs (Fi pl):=by
 obtain⟨D,c,m,rfl,rfl,hD,hcnt,hm,hsyn⟩:=h
 have hl:=Oa (s:=CJ (c.take m)) (D:=D) (c:=c) Zo
 rw[Fi,hl]
 by_cases c0:c=[]
 ·have d0:=hD c0
  subst c0;subst d0
  have e0:((CE [] []:Nat):Int)=0:=rfl
  rw[if_pos e0]
  exact⟨[],[],0,rfl,rfl,fun _=>rfl,Aac _,Aac _,Aac _⟩
 ·have e:CE D c=D.length+1:=by rw[CE,if_neg c0]
  rw[e,if_neg Zo,Od Zo c0]
  exact⟨D,c,c.length,by rw[Aas],rfl,hD,hcnt,Aac _,by simp⟩
def EU (pl:List PF)(recs:List (List UInt8)):Prop:=∃n R,Gc 1 n pl∧n<=60∧Whole pl (EP 1 n) R∧R.flatten=recs
theorem EU.open {recs:List (List UInt8)}(h:EU pl recs)(hne:∀p∈recs,p≠ []){room:Int}:(A1 room pl).1=0∧(A1 room pl).2.1=recs∧(∀s,AY (A1 room pl).2.2 s=AY pl s)∧(A1 room pl).2.2.map (·.name)=pl.map (·.name):=by
 obtain⟨n,R,h1,h2,h3,rfl⟩:=h
 rw[PB h1 Zd Zo h3,steps_all _ _ hne]
 exact⟨rfl,by simp,fun s=>read_of (FF _ _) (Jo _ _) s,FF _ _⟩
theorem FQ {n:Nat}{R:List (List (List UInt8))}(h1:Gc 1 n pl)(h2:n<=60)(h3:Whole pl (EP 1 n) R)(ns:List Int):EU (CD pl ns) R.flatten:=
 ⟨n,R,(FF pl ns).trans h1,h2,h3.same fun s=>read_of (FF _ _) (Jo _ _) s,rfl⟩
theorem done_named : ∀ (D : List (List (List UInt8))) (i : Nat), Gc i D.length (doneL i D)
  | [], _ => rfl
  | x :: D, i => by
    have := done_named D (i + 1)
    rw [Gc] at this ⊢
    rw [doneL, Aaj, L6, Aae, Aae, this]; rfl
theorem done_bytes :∀(D:List (List (List UInt8))) (i:Nat),(doneL i D).map (·.bytes)=D.map fun rs=>rs.flatMap As
 |[],_=>rfl
 |x::D,i=>by rw[doneL,Aae,Aae,done_bytes D];rfl
theorem Sl {keep:Int}{f:PF}(h:f.synced=f.bytes.length):Gd keep f=f:=by
 obtain⟨n,b,s⟩:=f
 simp only at h
 subst h
 simp[Gd,MZ,Nat.mod_one]
theorem L9 (keep : Int) : ∀ (D : List (List (List UInt8))) (i : Nat), (doneL i D).map (Gd keep) = doneL i D
  | [], _ => rfl
  | x :: D, i => by
    rw [doneL, Aae, L9 keep D]
    rw [Sl (f := Hz i x (CJ x)) rfl]
theorem HD.crashed (h:HD syn rs pl)(hr:rs.length<=50)(hrs:∀p∈rs,p≠ []∧p.length<=9100)(keep:Int):
  ∃j,syn<=j∧j<=rs.length∧(A1 4194304 (pl.map (Gd keep))).1=0∧(A1 4194304 (pl.map (Gd keep))).2.1=rs.take j∧EU (A1 4194304 (pl.map (Gd keep))).2.2 (rs.take j):=by
 obtain⟨D,c,m,rfl,rfl,hD,hcnt,hm,hsyn⟩:=h
 by_cases c0:c=[]
 ·have d0:=hD c0
  subst c0;subst d0
  simp at hm hsyn
  refine⟨0,by omega,Aac _,?_⟩
  have e:(Dw [] [] (CJ (([]:List (List UInt8)).take m))).map (Gd keep)=[]:=rfl
  rw[e,KI]
  exact⟨rfl,rfl,0,[],rfl,by omega,trivial,rfl⟩
 ·have hcl:CE D c=D.length+1:=by rw[CE,if_neg c0]
  have hc1:∀p∈c,p≠ []∧p.length<=9100:=fun p hp=>hrs p (AaP _ hp)
  have hd1:∀r∈D,∀p∈r,p≠ []∧p.length<=9100:=fun r hr p hp=>hrs p (AaM _ (List.mem_flatten.2 ⟨r,hr,hp⟩))
  obtain⟨k,hk1,hk2⟩:∃k,CJ (c.take m)<=k∧Gd keep (Hz (D.length+1) c (CJ (c.take m)))=⟨Am ((D.length+1:Nat):Int),(c.flatMap As).take k,((c.flatMap As).take k).length⟩:=
   ⟨CJ (c.take m)+MZ keep ((c.flatMap As).length-CJ (c.take m)),by omega,rfl⟩
  obtain⟨j,rest,hj1,hj2,hj3,hj4⟩:=frames_torn c k fun p hp=>by have:=(hc1 p hp).2;omega
  have hmj:=hj4 m hm hk1
  have hpl:(Dw D c (CJ (c.take m))).map (Gd keep)=doneL 1 D++[⟨Am ((D.length+1:Nat):Int),(c.flatMap As).take k,((c.flatMap As).take k).length⟩]:=by
   rw[Dw,Aam,L9,HU,if_neg c0,Aae,Aau,hk2]
  rw[hpl]
  generalize hT:(⟨Am ((D.length+1:Nat):Int),(c.flatMap As).take k,((c.flatMap As).take k).length⟩:PF)=T
  have hTn:T.name=Am ((D.length+1:Nat):Int):=by rw[<-hT]
  have hTb:T.bytes=(c.flatMap As).take k:=by rw[<-hT]
  have hdn:=done_named D 1
  have hN:∀U:PF,U.name=Am ((D.length+1:Nat):Int)->Gc 1 (D.length+1) (doneL 1 D++[U]):=fun U hU=>by
   rw[Gc]at hdn⊢
   rw[Aam,hdn,L7,Aam,Aae,Aau,hU,AbH 1 D.length];rfl
  have hDl:D.length<=50:=by omega
  have hWD:∀U:PF,U.name=Am ((D.length+1:Nat):Int)->Whole (doneL 1 D++[U]) (EP 1 D.length) D:=fun U hU=>by
   have:=KL ((hN U hU).nodup Zd Zo) (l:=doneL 1 D) (i:=1) (R:=D) (fun f hf=>AaM _ hf) (by rw[doneL_len];exact hdn) (done_bytes D 1) fun r hr p hp=>by have:=(hd1 r hr p hp).2;omega
   rwa[doneL_len]at this
  have hrU:∀U:PF,U.name=Am ((D.length+1:Nat):Int)->AY (doneL 1 D++[U]) (Am ((D.length+1:Nat):Int))=U.bytes:=fun U hU=>by
   have:=KK ((hN U hU).nodup Zd Zo) (f:=U) Zs
   rwa[hU]at this
  have hseg:EP 1 (D.length+1)=EP 1 D.length++[((D.length+1:Nat):Int)]:=by rw[L7,AbH 1 D.length]
  have hcj:∀p∈c.take j,p≠ []:=fun p hp=>(hc1 p (AbL hp)).1
  have hDf:D.flatten.foldl Fh []=D.flatten:=by rw[steps_all _ _ fun p hp=>by obtain⟨r,hr,hp⟩:=List.mem_flatten.1 hp;exact(hd1 r hr p hp).1];rfl
  have htake:(D.flatten++c).take (D.flatten.length+j)=D.flatten++c.take j:=by rw[List.take_append,AaA Zo];simp
  refine⟨D.flatten.length+j,by omega,by simp;omega,?_⟩
  rw[htake]
  have hWU:∀U:PF,U.name=Am ((D.length+1:Nat):Int)->U.bytes=(c.take j).flatMap As->Whole (doneL 1 D++[U]) (EP 1 (D.length+1)) (D++[c.take j]):=fun U hU hB=>by
   rw[hseg]
   exact(hWD U hU).app ⟨by rw[hrU U hU,hB],fun p hp=>by have:=(hc1 p (AbL hp)).2;omega,trivial⟩
  have hfl:(D++[c.take j]).flatten=D.flatten++c.take j:=by simp
  have hread:Ar 4194304 (doneL 1 D++[T])=Dk 4194304 (doneL 1 D++[T]) [((D.length+1:Nat):Int)] D.flatten:=by
   unfold Ar
   rw[(hN T hTn).segs Zd Zo,hseg,G5 (hWD T hTn),hDf]
  have hstep:(c.take j).foldl Fh D.flatten=D.flatten++c.take j:=steps_all _ _ hcj
  by_cases r0:rest=[]
  ·subst r0
   rw[Aaw]at hj3
   have e:Ar 4194304 (doneL 1 D++[T])=(0,D.flatten++c.take j,doneL 1 D++[T]):=by
    rw[hread,Dk,hrU T hTn,hTb,hj2,if_pos rfl,Dk]
    show(0,(c.take j).foldl Fh D.flatten,_)=_
    rw[hstep]
   rw[A1,KH (hN T hTn).fresh,e,if_pos rfl]
   refine⟨rfl,rfl,?_⟩
   have:=FQ (hN T hTn) Zo (hWU T hTn (by rw[hTb,hj3])) (AQ (doneL 1 D++[T]))
   rwa[hfl]at this
  ·have hlen:((c.flatMap As).take k).length-rest.length=((c.take j).flatMap As).length:=by rw[hj3,Aab];omega
   have hcut:((c.flatMap As).take k).take (((c.flatMap As).take k).length-rest.length)=(c.take j).flatMap As:=by rw[hlen,hj3,Abt]
   have hrem:Bp (doneL 1 D++[T]) (Am ((D.length+1:Nat):Int))=doneL 1 D:=by
    rw[Bp,Abz]
    have h1:(doneL 1 D).filter (fun f=>decide (f.name≠Am ((D.length+1:Nat):Int)))=doneL 1 D:=by
     rw[Abq];intro f hf;simpa using QZ (D:=D) (c:=c) Zo c0 f hf
    rw[h1];simp[hTn]
   have hgo:∀Q:List PF,Gb 4194304 (doneL 1 D++[T]) ((c.take j).flatMap As) ((D.length+1:Nat):Int) []=(0,Q)->Ar 4194304 (doneL 1 D++[T])=(0,D.flatten++c.take j,Q):=fun Q hQ=>by
    rw[hread,Dk,hrU T hTn,hTb,hj2,if_neg r0]
    simp only
    rw[hcut,hQ,if_pos rfl,hstep]
   by_cases b0:(c.take j).flatMap As=[]
   ·have hj0:c.take j=[]:=by
     cases hc:c.take j with
     |nil=>rfl
     |cons p t=>rw[hc,AaV]at b0;exact absurd (List.append_eq_nil_iff.1 b0).1 frameB_ne
    have e:=hgo (doneL 1 D) (by rw[QX b0,hrem,Hj])
    rw[A1,KH (hN T hTn).fresh,e,if_pos rfl]
    refine⟨rfl,rfl,?_⟩
    have hW:=KL (hdn.nodup Zd Zo) (l:=doneL 1 D) (i:=1) (R:=D) (fun f hf=>hf) (by rw[doneL_len];exact hdn) (done_bytes D 1) fun r hr p hp=>by have:=(hd1 r hr p hp).2;omega
    rw[doneL_len]at hW
    have:=FQ hdn Zo hW (AQ (doneL 1 D))
    rw[hj0,Aaw]
    exact this
   ·have hu1:AX (doneL 1 D++[T])<=HC D c:=by
     rw[GX,used_done,HC,Im]
     simp only[AX,Aae,Aau,Aa1,List.sum_nil,hTb,List.length_take,CJ]
     omega
    have hu2:HC D c<=9113*(D.flatten++c).length:=lenF_le fun p hp=>(hrs p hp).2
    have hb:((c.take j).flatMap As).length<=HC D c:=by
     rw[HC,Im,CJ,CJ]
     have:=congrArg List.length hj3
     rw[Aab,List.length_take]at this
     omega
    have hsw:=Uq (room:=4194304) (pl:=doneL 1 D++[T]) (b:=(c.take j).flatMap As) (n:=((D.length+1:Nat):Int)) Zo Zo (hN T hTn).fresh (by rw[Aab,doneL_len];simp;omega) Zo
    rw[hrem]at hsw
    have e:=hgo _ (by rw[N5 b0 (by rw[hsw]),hsw,Hj])
    generalize hT2:(⟨Am ((D.length+1:Nat):Int),(c.take j).flatMap As,((c.take j).flatMap As).length⟩:PF)=T2 at e
    have hTn2:T2.name=Am ((D.length+1:Nat):Int):=by rw[<-hT2]
    have hTb2:T2.bytes=(c.take j).flatMap As:=by rw[<-hT2]
    rw[A1,KH (hN T hTn).fresh,e,if_pos rfl]
    refine⟨rfl,rfl,?_⟩
    have:=FQ (hN T2 hTn2) Zo (hWU T2 hTn2 hTb2) (AQ (doneL 1 D++[T2]))
    rwa[hfl]at this
end
end Go.Proofs.YtjkaicjmfgekjaaGreatDoor
namespace Go.Proofs.YtjkaicjmfgekjaaGreatDoor
open Go.Proofs.Tryz
attribute [local irreducible] RD RS AA RL RA RT Cz Ai crcN CH Cx F8 B1 leL CM Am AQ DY D7 EO Ff DH Ar Ck As A1 Ay
abbrev muLink :Go.Conc.Locks.MuLink:={lock:=77,unlock:=33,ilock:=131,iunlock:=78,lockSlow:=192,unlockSlow:=135,disable:=133,enable:=136,acquire:=191,relMerge:=132,cas32:=190,add32:=134,tMutex:=88,tIMutex:=86,tPMutex:=151,tPIMutex:=204,tPI32:=208,tUP:=206,tNoCopy:=83,tU32:=84}
theorem muLib :Go.Conc.Locks.MuLib prog muLink:=
 ⟨func77,func33,func131,func78,func133,func136,func191,func132,func190,func134,underlying86,Tryz.runUnderlying86,Tryz.sizeOf86,Tryz.isAgg86,Tryz.zeroValue86,underlying88,Tryz.runUnderlying88,Tryz.sizeOf88,Tryz.isAgg88,Tryz.zeroValue88,underlying151,Tryz.runUnderlying151,Tryz.sizeOf151,Tryz.isAgg151,Tryz.zeroValue151,underlying204,Tryz.runUnderlying204,Tryz.sizeOf204,Tryz.isAgg204,Tryz.zeroValue204,underlying208,Tryz.runUnderlying208,Tryz.sizeOf208,Tryz.isAgg208,Tryz.zeroValue208,underlying206,Tryz.runUnderlying206,Tryz.sizeOf206,Tryz.isAgg206,Tryz.zeroValue206,underlying83,Tryz.runUnderlying83,Tryz.sizeOf83,Tryz.isAgg83,Tryz.zeroValue83,underlying21,Tryz.runUnderlying21,Tryz.sizeOf21,Tryz.isAgg21,Tryz.zeroValue21,Zk⟩
end Go.Proofs.YtjkaicjmfgekjaaGreatDoor
namespace Go.Proofs.YtjkaicjmfgekjaaGreatDoor
open Go.Proofs.Tryz
attribute [local irreducible] RD RS AA RL RA RT Cz Ai crcN CH Cx F8 B1 leL CM Am AQ DY D7 EO Ff DH Ar Ck As A1 Ay X
theorem Bv (b lg m1 m2 m3:Nat)(s:Int)(w:World)(hb:AB w b [.int .i32 0,.int .u32 0,jp lg,.int .i64 s,.map (some m1),.map (some m2),.map (some m3)] 94):
  Calls prog 32 #[jp b] w (AN (fun v w'=>v= .bool true∧AB w' b [.int .i32 1,.int .u32 0,jp lg,.int .i64 s,.map (some m1),.map (some m2),.map (some m3)] 94∧Ad (one b) w w')):=by
 refine Ac (n:=18) func32 rfl rfl rfl ?_;refine jG ?_;refine jV (D9 (Dm underlying24 rfl rfl) rfl) ?_;refine jG ?_;refine Ai.condF rfl ?_;refine jG ?_;refine jR<|jC (ZY muLib hb) ?_;rintro _ a1 ⟨rfl,a0,a2⟩;have K0:=(Ad.refl (one b) w).tf a2 rfl;replace hb:AB a1 b [.int .i32 1,.int .u32 0,jp lg,.int .i64 s,.map (some m1),.map (some m2),.map (some m3)] 94:=a0;clear a0;refine jG ?_;refine jV (D9 (Dm underlying89 rfl rfl) rfl) ?_;refine jG ?_;refine Ai.condF rfl ?_;refine jG ?_;refine jJ func32 ?_;exact⟨_,rfl,rfl,hb,K0⟩
end Go.Proofs.YtjkaicjmfgekjaaGreatDoor
