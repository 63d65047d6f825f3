/- The shelf's contracts of strings.Split, strings.Index, strings.Trim, strconv.Atoi and strconv.Itoa at this program. Conditions: the texts' lengths; a separator of one byte; the table of tens holds what it should. -/
import Derived.Test.YtckdhcbbgmiccaaGreatDoorLdzMod82
import Derived.Shelf.LaysM
import Derived.Shelf.Strings.Split
import Derived.Shelf.Strings.SlTrimAscii
import Derived.Shelf.Strconv.Atoi
import Derived.Shelf.Strconv.Itoa3
open Go.Proofs.Tryz
set_option linter.unusedVariables false
set_option linter.unusedSimpArgs false
namespace Go.Proofs.YtckdhcbbgmiccaaGreatDoor
def ZS:Shelf.Ren where
 f := fun x => match x with
   | 221=>31
   | 268=>58
   | 138=>59
   | 143=>60
   | 195=>114
   | 197=>115
   | 218=>116
   | 219=>117
   | 260=>168
   | 217=>169
   | 225=>170
   | 224=>171
   | 267=>172
   | 266=>219
   | 314=>220
   | n=>n
 t := fun x => match x with
   | 0=>0
   | 3=>3
   | 4=>4
   | 5=>5
   | 9=>9
   | 21=>21
   | 31=>46
   | 46=>193
   | 51=>242
   | 105=>151
   | 119=>243
   | 138=>245
   | 139=>246
   | 146=>247
   | n=>n
 g := fun x => match x with
   | 1=>0
   | 3=>1
   | 4=>2
   | n=>n
theorem O3:Lays.n221 Tryz.prog ZS where
 mixed:=by kernel_rfl
 f138:=by kernel_rfl
 f143:=by kernel_rfl
 f195:=by kernel_rfl
 f197:=by kernel_rfl
 f217:=by kernel_rfl
 f218:=by kernel_rfl
 f219:=by kernel_rfl
 f221:=by kernel_rfl
 f224:=by kernel_rfl
 f225:=by kernel_rfl
 f260:=by kernel_rfl
 f266:=by kernel_rfl
 f267:=by kernel_rfl
 f268:=by kernel_rfl
 f314:=by kernel_rfl
 t0:=Tryz.underlying0
 a0:=Tryz.isAgg0
 z0:=Tryz.sizeOf0
 v0:=Tryz.zeroValue0
 t3:=Tryz.underlying3
 a3:=Tryz.isAgg3
 z3:=Tryz.sizeOf3
 v3:=Tryz.zeroValue3
 t4:=Tryz.underlying4
 a4:=Tryz.isAgg4
 z4:=Tryz.sizeOf4
 v4:=Tryz.zeroValue4
 t5:=Tryz.underlying5
 a5:=Tryz.isAgg5
 z5:=Tryz.sizeOf5
 v5:=Tryz.zeroValue5
 t9:=Tryz.underlying9
 a9:=Tryz.isAgg9
 z9:=Tryz.sizeOf9
 v9:=Tryz.zeroValue9
 t21:=Tryz.underlying21
 a21:=Tryz.isAgg21
 z21:=Tryz.sizeOf21
 v21:=Tryz.zeroValue21
 t31:=Tryz.underlying46
 a31:=Tryz.isAgg46
 z31:=Tryz.sizeOf46
 v31:=Tryz.zeroValue46
 t46:=Tryz.underlying193
 a46:=Tryz.isAgg193
 z46:=Tryz.sizeOf193
 v46:=Tryz.zeroValue193
 t51:=Tryz.underlying242
 a51:=Tryz.isAgg242
 z51:=Tryz.sizeOf242
 v51:=Tryz.zeroValue242
 t105:=Tryz.underlying151
 a105:=Tryz.isAgg151
 z105:=Tryz.sizeOf151
 v105:=Tryz.zeroValue151
 t119:=Tryz.underlying243
 a119:=Tryz.isAgg243
 z119:=Tryz.sizeOf243
 t138:=Tryz.underlying245
 a138:=Tryz.isAgg245
 z138:=Tryz.sizeOf245
 v138:=Tryz.zeroValue245
 t139:=Tryz.underlying246
 a139:=Tryz.isAgg246
 z139:=Tryz.sizeOf246
 v139:=Tryz.zeroValue246
 t146:=Tryz.underlying247
 a146:=Tryz.isAgg247
 z146:=Tryz.sizeOf247
 v146:=Tryz.zeroValue247
 g1:=by kernel_rfl
 g3:=by kernel_rfl
 g4:=by kernel_rfl
def ZT:Shelf.Ren where
 f := fun x => match x with
   | 219=>117
   | 217=>169
   | 225=>170
   | 224=>171
   | 267=>172
   | 266=>219
   | 314=>220
   | n=>n
 t := fun x => match x with
   | 3=>3
   | 4=>4
   | 5=>5
   | 9=>9
   | 46=>193
   | 51=>242
   | 146=>247
   | n=>n
 g := fun x => match x with
   | 1=>0
   | n=>n
theorem Xd:Lays.n219 Tryz.prog ZT where
 mixed:=by kernel_rfl
 f217:=by kernel_rfl
 f219:=by kernel_rfl
 f224:=by kernel_rfl
 f225:=by kernel_rfl
 f266:=by kernel_rfl
 f267:=by kernel_rfl
 f314:=by kernel_rfl
 t3:=Tryz.underlying3
 a3:=Tryz.isAgg3
 z3:=Tryz.sizeOf3
 v3:=Tryz.zeroValue3
 t4:=Tryz.underlying4
 a4:=Tryz.isAgg4
 z4:=Tryz.sizeOf4
 v4:=Tryz.zeroValue4
 t5:=Tryz.underlying5
 a5:=Tryz.isAgg5
 z5:=Tryz.sizeOf5
 v5:=Tryz.zeroValue5
 t9:=Tryz.underlying9
 a9:=Tryz.isAgg9
 z9:=Tryz.sizeOf9
 v9:=Tryz.zeroValue9
 t46:=Tryz.underlying193
 a46:=Tryz.isAgg193
 z46:=Tryz.sizeOf193
 v46:=Tryz.zeroValue193
 t51:=Tryz.underlying242
 a51:=Tryz.isAgg242
 z51:=Tryz.sizeOf242
 v51:=Tryz.zeroValue242
 t146:=Tryz.underlying247
 a146:=Tryz.isAgg247
 z146:=Tryz.sizeOf247
 v146:=Tryz.zeroValue247
 g1:=by kernel_rfl
def ZU:Shelf.Ren where
 f := fun x => match x with
   | 160=>71
   | 232=>133
   | 231=>132
   | 227=>134
   | 234=>136
   | 233=>135
   | 236=>138
   | 235=>137
   | 228=>187
   | 271=>189
   | 151=>188
   | 197=>115
   | 120=>226
   | 152=>225
   | 260=>168
   | 137=>240
   | 119=>241
   | 224=>171
   | 225=>170
   | 217=>169
   | 266=>219
   | n=>n
 t := fun x => match x with
   | 0=>0
   | 3=>3
   | 4=>4
   | 5=>5
   | 9=>9
   | 21=>21
   | 46=>193
   | 105=>151
   | 116=>170
   | 117=>171
   | 119=>243
   | 124=>174
   | 138=>245
   | 139=>246
   | n=>n
 g := fun x => match x with
   | 3=>1
   | 4=>2
   | n=>n
theorem Xe:Lays.n160 Tryz.prog ZU where
 mixed:=by kernel_rfl
 f119:=by kernel_rfl
 f120:=by kernel_rfl
 f137:=by kernel_rfl
 f151:=by kernel_rfl
 f152:=by kernel_rfl
 f160:=by kernel_rfl
 f197:=by kernel_rfl
 f217:=by kernel_rfl
 f224:=by kernel_rfl
 f225:=by kernel_rfl
 f227:=by kernel_rfl
 f228:=by kernel_rfl
 f231:=by kernel_rfl
 f232:=by kernel_rfl
 f233:=by kernel_rfl
 f234:=by kernel_rfl
 f235:=by kernel_rfl
 f236:=by kernel_rfl
 f260:=by kernel_rfl
 f266:=by kernel_rfl
 f271:=by kernel_rfl
 t0:=Tryz.underlying0
 a0:=Tryz.isAgg0
 z0:=Tryz.sizeOf0
 v0:=Tryz.zeroValue0
 t3:=Tryz.underlying3
 a3:=Tryz.isAgg3
 z3:=Tryz.sizeOf3
 v3:=Tryz.zeroValue3
 t4:=Tryz.underlying4
 a4:=Tryz.isAgg4
 z4:=Tryz.sizeOf4
 v4:=Tryz.zeroValue4
 t5:=Tryz.underlying5
 a5:=Tryz.isAgg5
 z5:=Tryz.sizeOf5
 v5:=Tryz.zeroValue5
 t9:=Tryz.underlying9
 a9:=Tryz.isAgg9
 z9:=Tryz.sizeOf9
 v9:=Tryz.zeroValue9
 t21:=Tryz.underlying21
 a21:=Tryz.isAgg21
 z21:=Tryz.sizeOf21
 v21:=Tryz.zeroValue21
 t46:=Tryz.underlying193
 a46:=Tryz.isAgg193
 z46:=Tryz.sizeOf193
 v46:=Tryz.zeroValue193
 t105:=Tryz.underlying151
 a105:=Tryz.isAgg151
 z105:=Tryz.sizeOf151
 v105:=Tryz.zeroValue151
 t116:=Tryz.underlying170
 a116:=Tryz.isAgg170
 z116:=Tryz.sizeOf170
 t117:=Tryz.underlying171
 a117:=Tryz.isAgg171
 z117:=Tryz.sizeOf171
 v117:=Tryz.zeroValue171
 t119:=Tryz.underlying243
 a119:=Tryz.isAgg243
 z119:=Tryz.sizeOf243
 t124:=Tryz.underlying174
 a124:=Tryz.isAgg174
 z124:=Tryz.sizeOf174
 v124:=Tryz.zeroValue174
 t138:=Tryz.underlying245
 a138:=Tryz.isAgg245
 z138:=Tryz.sizeOf245
 v138:=Tryz.zeroValue245
 t139:=Tryz.underlying246
 a139:=Tryz.isAgg246
 z139:=Tryz.sizeOf246
 v139:=Tryz.zeroValue246
 g3:=by kernel_rfl
 g4:=by kernel_rfl
def ZV:Shelf.Ren where
 f := fun x => match x with
   | 172=>72
   | 244=>139
   | 245=>140
   | 247=>190
   | 279=>191
   | 280=>192
   | 281=>193
   | 282=>194
   | 287=>227
   | 316=>228
   | 171=>37
   | 205=>229
   | 321=>242
   | 322=>243
   | 243=>75
   | 246=>143
   | 283=>196
   | 284=>197
   | 285=>198
   | 286=>199
   | 129=>218
   | 317=>230
   | 318=>231
   | 319=>232
   | 320=>233
   | 337=>244
   | 338=>245
   | n=>n
 t := fun x => match x with
   | 0=>0
   | 2=>2
   | 3=>3
   | 4=>4
   | 5=>5
   | 9=>9
   | 20=>20
   | 21=>21
   | 37=>22
   | 46=>193
   | 51=>242
   | 53=>218
   | 75=>110
   | 76=>111
   | 80=>120
   | 85=>212
   | 127=>178
   | 143=>269
   | 145=>271
   | 167=>211
   | 168=>214
   | 171=>217
   | 173=>221
   | 175=>252
   | 210=>255
   | 212=>258
   | 213=>259
   | 232=>276
   | 233=>277
   | n=>n
 g := fun x => match x with
   | 15=>3
   | 16=>4
   | 17=>5
   | 18=>6
   | 19=>7
   | n=>n
theorem Xf:Lays.n172 Tryz.prog ZV where
 mixed:=by kernel_rfl
 f129:=by kernel_rfl
 f171:=by kernel_rfl
 f172:=by kernel_rfl
 f205:=by kernel_rfl
 f243:=by kernel_rfl
 f244:=by kernel_rfl
 f245:=by kernel_rfl
 f246:=by kernel_rfl
 f247:=by kernel_rfl
 f279:=by kernel_rfl
 f280:=by kernel_rfl
 f281:=by kernel_rfl
 f282:=by kernel_rfl
 f283:=by kernel_rfl
 f284:=by kernel_rfl
 f285:=by kernel_rfl
 f286:=by kernel_rfl
 f287:=by kernel_rfl
 f316:=by kernel_rfl
 f317:=by kernel_rfl
 f318:=by kernel_rfl
 f319:=by kernel_rfl
 f320:=by kernel_rfl
 f321:=by kernel_rfl
 f322:=by kernel_rfl
 f337:=by kernel_rfl
 f338:=by kernel_rfl
 t0:=Tryz.underlying0
 a0:=Tryz.isAgg0
 z0:=Tryz.sizeOf0
 v0:=Tryz.zeroValue0
 t2:=Tryz.underlying2
 a2:=Tryz.isAgg2
 z2:=Tryz.sizeOf2
 v2:=Tryz.zeroValue2
 t3:=Tryz.underlying3
 a3:=Tryz.isAgg3
 z3:=Tryz.sizeOf3
 v3:=Tryz.zeroValue3
 t4:=Tryz.underlying4
 a4:=Tryz.isAgg4
 z4:=Tryz.sizeOf4
 v4:=Tryz.zeroValue4
 t5:=Tryz.underlying5
 a5:=Tryz.isAgg5
 z5:=Tryz.sizeOf5
 v5:=Tryz.zeroValue5
 t9:=Tryz.underlying9
 a9:=Tryz.isAgg9
 z9:=Tryz.sizeOf9
 v9:=Tryz.zeroValue9
 t20:=Tryz.underlying20
 a20:=Tryz.isAgg20
 z20:=Tryz.sizeOf20
 v20:=Tryz.zeroValue20
 t21:=Tryz.underlying21
 a21:=Tryz.isAgg21
 z21:=Tryz.sizeOf21
 v21:=Tryz.zeroValue21
 t37:=Tryz.underlying22
 a37:=Tryz.isAgg22
 z37:=Tryz.sizeOf22
 v37:=Tryz.zeroValue22
 t46:=Tryz.underlying193
 a46:=Tryz.isAgg193
 z46:=Tryz.sizeOf193
 v46:=Tryz.zeroValue193
 t51:=Tryz.underlying242
 a51:=Tryz.isAgg242
 z51:=Tryz.sizeOf242
 v51:=Tryz.zeroValue242
 t53:=Tryz.underlying218
 a53:=Tryz.isAgg218
 z53:=Tryz.sizeOf218
 v53:=Tryz.zeroValue218
 t75:=Tryz.underlying110
 a75:=Tryz.isAgg110
 z75:=Tryz.sizeOf110
 v75:=Tryz.zeroValue110
 t76:=Tryz.underlying111
 a76:=Tryz.isAgg111
 z76:=Tryz.sizeOf111
 v76:=Tryz.zeroValue111
 t85:=Tryz.underlying212
 a85:=Tryz.isAgg212
 z85:=Tryz.sizeOf212
 v85:=Tryz.zeroValue212
 t127:=Tryz.underlying178
 a127:=Tryz.isAgg178
 z127:=Tryz.sizeOf178
 v127:=Tryz.zeroValue178
 t143:=Tryz.underlying269
 a143:=Tryz.isAgg269
 z143:=Tryz.sizeOf269
 v143:=Tryz.zeroValue269
 t145:=Tryz.underlying271
 a145:=Tryz.isAgg271
 z145:=Tryz.sizeOf271
 v145:=Tryz.zeroValue271
 t167:=Tryz.underlying211
 a167:=Tryz.isAgg211
 z167:=Tryz.sizeOf211
 v167:=Tryz.zeroValue211
 t168:=Tryz.underlying214
 a168:=Tryz.isAgg214
 z168:=Tryz.sizeOf214
 v168:=Tryz.zeroValue214
 t171:=Tryz.underlying217
 a171:=Tryz.isAgg217
 z171:=Tryz.sizeOf217
 v171:=Tryz.zeroValue217
 t173:=Tryz.underlying221
 a173:=Tryz.isAgg221
 z173:=Tryz.sizeOf221
 v173:=Tryz.zeroValue221
 t175:=Tryz.underlying252
 a175:=Tryz.isAgg252
 z175:=Tryz.sizeOf252
 v175:=Tryz.zeroValue252
 t210:=Tryz.underlying255
 a210:=Tryz.isAgg255
 z210:=Tryz.sizeOf255
 v210:=Tryz.zeroValue255
 t212:=Tryz.underlying258
 a212:=Tryz.isAgg258
 z212:=Tryz.sizeOf258
 v212:=Tryz.zeroValue258
 t213:=Tryz.underlying259
 a213:=Tryz.isAgg259
 z213:=Tryz.sizeOf259
 t232:=Tryz.underlying276
 a232:=Tryz.isAgg276
 z232:=Tryz.sizeOf276
 v232:=Tryz.zeroValue276
 t233:=Tryz.underlying277
 a233:=Tryz.isAgg277
 z233:=Tryz.sizeOf277
 v233:=Tryz.zeroValue277
 g15:=by kernel_rfl
 g16:=by kernel_rfl
 g17:=by kernel_rfl
 g18:=by kernel_rfl
 g19:=by kernel_rfl
def ZW:Shelf.Ren where
 f := fun x => match x with
   | 171=>37
   | 243=>75
   | 246=>143
   | 283=>196
   | 284=>197
   | 285=>198
   | 286=>199
   | 129=>218
   | 317=>230
   | 318=>231
   | 319=>232
   | 320=>233
   | 337=>244
   | 338=>245
   | n=>n
 t := fun x => match x with
   | 0=>0
   | 2=>2
   | 3=>3
   | 4=>4
   | 5=>5
   | 9=>9
   | 20=>20
   | 37=>22
   | 46=>193
   | 51=>242
   | 53=>218
   | 171=>217
   | 173=>221
   | 212=>258
   | 213=>259
   | 232=>276
   | 233=>277
   | n=>n
 g := fun x => match x with
   | 17=>5
   | 18=>6
   | 19=>7
   | n=>n
theorem Xg:LaysM.n171 Tryz.prog ZW where
 mixed:=by kernel_rfl
 f129:=by kernel_rfl
 f171:=by kernel_rfl
 f243:=by kernel_rfl
 f246:=by kernel_rfl
 f283:=by kernel_rfl
 f284:=by kernel_rfl
 f285:=by kernel_rfl
 f286:=by kernel_rfl
 f317:=by kernel_rfl
 f318:=by kernel_rfl
 f319:=by kernel_rfl
 f320:=by kernel_rfl
 f337:=by kernel_rfl
 f338:=by kernel_rfl
 t0:=Tryz.underlying0
 a0:=Tryz.isAgg0
 z0:=Tryz.sizeOf0
 v0:=Tryz.zeroValue0
 t2:=Tryz.underlying2
 a2:=Tryz.isAgg2
 z2:=Tryz.sizeOf2
 v2:=Tryz.zeroValue2
 t3:=Tryz.underlying3
 a3:=Tryz.isAgg3
 z3:=Tryz.sizeOf3
 v3:=Tryz.zeroValue3
 t4:=Tryz.underlying4
 a4:=Tryz.isAgg4
 z4:=Tryz.sizeOf4
 v4:=Tryz.zeroValue4
 t5:=Tryz.underlying5
 a5:=Tryz.isAgg5
 z5:=Tryz.sizeOf5
 v5:=Tryz.zeroValue5
 t9:=Tryz.underlying9
 a9:=Tryz.isAgg9
 z9:=Tryz.sizeOf9
 v9:=Tryz.zeroValue9
 t20:=Tryz.underlying20
 a20:=Tryz.isAgg20
 z20:=Tryz.sizeOf20
 v20:=Tryz.zeroValue20
 t37:=Tryz.underlying22
 a37:=Tryz.isAgg22
 z37:=Tryz.sizeOf22
 v37:=Tryz.zeroValue22
 t46:=Tryz.underlying193
 a46:=Tryz.isAgg193
 z46:=Tryz.sizeOf193
 v46:=Tryz.zeroValue193
 t51:=Tryz.underlying242
 a51:=Tryz.isAgg242
 z51:=Tryz.sizeOf242
 v51:=Tryz.zeroValue242
 t53:=Tryz.underlying218
 a53:=Tryz.isAgg218
 z53:=Tryz.sizeOf218
 v53:=Tryz.zeroValue218
 t171:=Tryz.underlying217
 a171:=Tryz.isAgg217
 z171:=Tryz.sizeOf217
 v171:=Tryz.zeroValue217
 t173:=Tryz.underlying221
 a173:=Tryz.isAgg221
 z173:=Tryz.sizeOf221
 v173:=Tryz.zeroValue221
 t212:=Tryz.underlying258
 a212:=Tryz.isAgg258
 z212:=Tryz.sizeOf258
 v212:=Tryz.zeroValue258
 t213:=Tryz.underlying259
 a213:=Tryz.isAgg259
 z213:=Tryz.sizeOf259
 t232:=Tryz.underlying276
 a232:=Tryz.isAgg276
 z232:=Tryz.sizeOf276
 v232:=Tryz.zeroValue276
 t233:=Tryz.underlying277
 a233:=Tryz.isAgg277
 z233:=Tryz.sizeOf277
 v233:=Tryz.zeroValue277
 g17:=by kernel_rfl
 g18:=by kernel_rfl
 g19:=by kernel_rfl
 i0:=by kernel_rfl
 i2:=by kernel_rfl
 i3:=by kernel_rfl
 i4:=by kernel_rfl
 i5:=by kernel_rfl
 i9:=by kernel_rfl
 i20:=by kernel_rfl
 i37:=by kernel_rfl
 i46:=by kernel_rfl
 i51:=by kernel_rfl
 i53:=by kernel_rfl
 i171:=by kernel_rfl
 i173:=by kernel_rfl
 i212:=by kernel_rfl
 i232:=by kernel_rfl
 i233:=by kernel_rfl
 m17:=by kernel_rfl
 m18:=by kernel_rfl
 m19:=by kernel_rfl
theorem Vv {sep:Str}(h:sep.length=1):bs sep=⟨#[sep.headD 0]⟩∧sep=[sep.headD 0]:=by
 match sep,h with
 | [c],_=>exact ⟨rfl,rfl⟩
theorem Ta {w w':World}(h:Go.RowKit.Below w.heap.size w w'):Ext w w':=⟨h.os,h.tape,h.output,h.size,fun k hk _=>h.block k hk⟩
theorem Tb (w:World) (e:TypeId) (s:ByteArray):Ext w (Lib.bytesWorld w e s):=⟨rfl,rfl,rfl,by rw [Lib.bytesWorld_size]; omega,fun k hk _=>Lib.bytesWorld_at_old w e s k hk⟩
theorem Vw (w:World) (k:Nat) (os:Array Obj):Ext w (Go.Sort.grow (w.drewN k) os):=⟨rfl,rfl,rfl,by simp [Go.Sort.grow,World.drewN],fun i hi _=>by
 show (w.heap++os)[i]? = w.heap[i]?
 rw [Array.getElem?_append_left hi]⟩
variable {w:World} {F:Nat→Prop}
set_option maxHeartbeats 1000000 in
theorem I0 (s sep:Str) (sv n:Int){w:World}{F:Nat→Prop}(p0:s.length≤1000000) (p1:sep.length=1) (p2:sv=0) (p3:n = -1) :
 Calls Tryz.prog 31 [.string (bs s),.string (bs sep),.int .i64 sv,.int .i64 n].toArray w (Al fun rv w'=>VL (ge w.heap.size) w' (AZ s (sep.headD 0):List Txt) rv∧Ext w w'):=by
 subst p2 p3
 obtain ⟨e1,e2⟩:=Vv p1
 rw [e1]
 generalize sep.headD 0=c at *
 have hc:Lib.countB (bs s) ⟨#[c]⟩=Lib.count s [c]:=by
  unfold Lib.countB
  rw [Ev]
 have hsz:=Ew s
 have hle:=Lib.countB_le ⟨#[c]⟩ (Nat.le_refl 1) (bs s).size (bs s) (Nat.le_refl _)
 have hlen:=Lib.splitB_all ⟨#[c]⟩ (Nat.le_refl 1) 0 _ (bs s) rfl
 have q:=Any.strings_genSplit_core O3 AA (bs s) ⟨#[c]⟩ 0 (-1) (Lib.countB (bs s) ⟨#[c]⟩ + 1) w AB (Nat.le_refl 1) (Nat.zero_le _)
  (fun x cs _=>by
   refine (Any.strings_Index_one { O3 with } x c _).mono ?_
   rintro e w' ⟨h1,h2⟩
   refine ⟨?_,h2⟩
   rw [h1]
   show _=Ending.returned (Value.int .i64 (Lib.index x.data.toList [c]))
   rw [Lib.index_one])
  (by
   refine (Any.strings_Count_one { O3 with } (bs s) c w).mono ?_
   rintro e w' ⟨h1,h2⟩
   refine ⟨?_,h2⟩
   rw [h1,hc,Ev,Lib.count_one]
   rfl)
  AE AE (by rw [if_pos AE]; omega)
 rw [Nat.add_sub_cancel,hlen] at q
 have e3:Lib.cellsOf (Lib.splitB ⟨#[c]⟩ 0 (Lib.countB (bs s) ⟨#[c]⟩) (bs s)) (Lib.countB (bs s) ⟨#[c]⟩ + 1)=((Lib.splitB ⟨#[c]⟩ 0 (Lib.countB (bs s) ⟨#[c]⟩) (bs s)).map Value.string).toArray:=by rw [← hlen]; exact Lib.cellsOf_full _
 rw [e3] at q
 have hd:(Lib.splitB ⟨#[c]⟩ 0 (Lib.countB (bs s) ⟨#[c]⟩) (bs s)).map (·.data.toList)=Iu c s:=by
  rw [Lib.splitB_data,hc,Ev]
  exact XO c s
 generalize Lib.splitB ⟨#[c]⟩ 0 (Lib.countB (bs s) ⟨#[c]⟩) (bs s)=B at *
 have hcut:AZ s c=B.map (fun x=>⟨x.data.toList⟩):=by
  rw [Oo,← hd,List.map_map]
  rfl
 have hl:(AZ s c).length=B.length:=by rw [hcut,List.length_map]
 refine q.mono ?_
 rintro e w' ⟨rfl,rfl⟩
 refine ⟨_,rfl,⟨some ⟨w.heap.size,0,none⟩,Lib.countB (bs s) ⟨#[c]⟩ + 1,by rw [hl,hlen],?_⟩,Ext.alloc _ _⟩
 rw [hl,hlen]
 refine ⟨by rw [hl,hlen],Nat.le_refl _,by unfold maxLen; omega,fun _=>rfl,fun _=>Nat.le_refl _,fun i x hx=>?_⟩
 rw [hcut,List.getElem?_map] at hx
 cases hb:B[i]? with
 | none=>rw [hb] at hx; cases hx
 | some y =>
   rw [hb] at hx
   simp only [Option.map_some,Option.some.injEq] at hx
   subst hx
   refine ⟨_,rfl,fun k u hu=>?_⟩
   have hk:k=0:=by
    cases k with
    | zero=>rfl
    | succ k=>simp at hu
   subst hk
   simp only [List.getElem?_cons_zero,Option.some.injEq] at hu
   subst hu
   have ey:bs y.data.toList=y:=Lib.mk_data y
   rw [ey]
   have e1:Rep.sz Txt=1:=rfl
   rw [e1]
   have e4:(⟨blk (some ⟨w.heap.size,0,none⟩),off (some ⟨w.heap.size,0,none⟩)+i * 1,none⟩:Addr).add 0=⟨w.heap.size,i,none⟩:=by simp [blk,off,Addr.add]
   show World.cell? _ _=_
   rw [show (0:Nat)=0 from rfl]
   first | (rw [e4,World.cell?_alloc_new]; simp [hb]) | (simp [blk,off,hb]; done)
theorem FB (s sep:Str){w:World}{F:Nat→Prop}(p1:sep.length=1) :
 Calls Tryz.prog 117 [.string (bs s),.string (bs sep)].toArray w (Al fun rv w'=>rv=.int .i64 (Lib.indexByte s (sep.headD 0))∧Ext w w'):=by
 obtain ⟨e1,e2⟩:=Vv p1
 rw [e1]
 refine (Any.stringslite_Index_one Xd (bs s) (sep.headD 0) w).mono ?_
 rintro e w' ⟨rfl,rfl⟩
 rw [Ev]
 exact ⟨_,rfl,rfl,Ext.refl _⟩
theorem Hr (s set_:Str){w:World}{F:Nat→Prop}(p0:s.length≤1000000) (p1:set_=Fl) :
 Calls Tryz.prog 71 [.string (bs s),.string (bs set_)].toArray w (Al fun rv w'=>rv=.string (bs (Lib.trimS s set_))∧Ext w w'):=by
 subst p1
 refine (Any.strings_Trim_laid Xe AA (bs s) (bs Fl) w (by rw [Ew]; omega) (by rw [Ew]; decide) (by rw [Ev]; exact ascii_of_all AE)).mono ?_
 rintro e w' ⟨rfl,hw⟩
 rw [Ev,Ev]
 exact ⟨_,rfl,rfl,Ta hw⟩
theorem Hs (s:Str){w:World}{F:Nat→Prop}(p0:Lib.atoi s=some (Fm s)) (p1:s.length≤18) :
 Calls Tryz.prog 72 [.string (bs s)].toArray w (Al fun rv w'=>rv=.tuple #[.int .i64 (Fm s),.nilIface]∧Ext w w'):=by
 refine (Any.strconv_Atoi Xf (bs s) (Fm s) (by rw [Ew]; exact p1) (by rw [Ev]; exact p0) w).mono ?_
 rintro e w' ⟨rfl,t,rfl⟩
 exact ⟨_,rfl,rfl,Tb _ _ _⟩
structure Tab where
 z:Nat
instance:Rep Tab where
 sz:=1
 rep w F x cs:=cs=[.int .u64 1]∧F 5∧w.var? Tryz.prog "internal/strconv.uint64pow10" = some (Lib.pow10Tab.map fun z=>Value.int .u64 z).toArray∧5< w.heap.size
 len:=by rintro w F x cs ⟨rfl,_⟩; rfl
 pos:=by decide
 flat:=by rintro w F x cs ⟨rfl,_⟩ v hv; simp at hv; subst hv; rfl
 frame:=by
  rintro w w' F F' x cs ⟨rfl,hF,hv,hs⟩ hf
  obtain ⟨h1,h2⟩:=hf _ hs hF
  refine ⟨rfl,h1,?_,?_⟩
  ·rw [← hv]
   unfold World.var?
   have hg:Tryz.prog.globalNamed "internal/strconv.uint64pow10" = some 5:=by kernel_rfl
   rw [hg]
   simp only [Option.bind_some]
   rw [h2]
  ·rcases Nat.lt_or_ge 5 w'.heap.size with h | h
   ·exact h
   ·rw [Array.getElem?_eq_none h,Array.getElem?_eq_getElem hs] at h2
    cases h2
def CE:List Tab:=[⟨0⟩]
theorem Vx {a:Option Addr}(h:RepS w F a CE.length CE.length CE):Lib.TabIs Tryz.prog w "internal/strconv.uint64pow10" .u64 Lib.pow10Tab:=by
 obtain ⟨cs,hr,_⟩:=h.elem 0 ⟨0⟩ rfl
 exact hr.2.2.1
theorem Fu (n:Int) (htab:RepS w F (some ⟨5,0,none⟩) CE.length CE.length CE) (p0:-99≤n∧n≤99) :
 Calls Tryz.prog 37 [.int .i64 n].toArray w (Al fun rv w'=>rv=.string (bs (BF n))∧Ext w w'):=by
 refine (Any.strconv_Itoa Xg n AB AB w (Vx htab)).mono ?_
 rintro e w' ⟨rfl,k,os,rfl⟩
 rw [ZA p0]
 exact ⟨_,rfl,rfl,Vw _ _ _⟩
end Go.Proofs.YtckdhcbbgmiccaaGreatDoor
namespace Go.Proofs.YtckdhcbbgmiccaaGreatDoor
set_option maxRecDepth 100000
set_option maxHeartbeats 4000000
variable {w:World} {F:Nat→Prop}
theorem D7 (s:Str) (sep:Str){F:Nat→Prop}  (p0:s.length≤1000000) (p1:sep.length=1):Calls Tryz.prog 18 [.string (bs s),.string (bs sep)].toArray w (Al fun rv w'=>VL (ge w.heap.size) w' ((AZ s (sep.headD 0)):List Txt) rv∧Ext w w'):=by
 refine goT func18 ?_
 have Z:=St.i0 F w
 exact .s<|.g<|.r 1<|.d<|.s<|.g<|.r 2<|RG.CL (I0 s sep 0 (-1) p0 p1 rfl rfl (F:=all)) Z fun E aa w Z=>.r 1<|.d<|T.Rt func18 results18 ⟨Z.rL 0 (AZ s (sep.headD 0)) AF,Z.xt⟩
theorem Fv (s:Str) (sep:Str){F:Nat→Prop}  (p0:s.length≤1000000) (p1:sep.length=1):Calls Tryz.prog 118 [.string (bs s),.string (bs sep)].toArray w (Al fun rv w'=>rv=.tuple #[.string (bs ((DL s (sep.headD 0)).1)),.string (bs ((DL s (sep.headD 0)).2.1)),.bool ((DL s (sep.headD 0)).2.2)]∧Ext w w'):=by
 refine goT func118 ?_
 have Z:=St.i0 F w
 exact .s<|.g<|.r 3<|.d<|.s<|.s<|.g<|.r 2<|RG.C0 (FB s sep p1 (F:=all)) Z fun w Z=>.r 1<|.d<|.s<|.g<|.r 1<|.bp (Lib.indexByte s (sep.headD 0)≥0) (fun aa=>.d<|.ct<|.s<|T.Gd 10 Z fun w Z=>.r [0,1]<|GA.IF (i:=2) (t:=9) (lo:=none) (hi:=some (vI (Lib.indexByte s (sep.headD 0)))) (s:=s) AA 0 ((Lib.indexByte s (sep.headD 0)).toNat) AA AA (.inl ⟨rfl,rfl⟩) (.inr ⟨_,_,rfl,by have E:=Mj s (sep.headD 0); omega⟩) (by have E:=Mj s (sep.headD 0); omega) (by have E:=Mj s (sep.headD 0); omega)<|.r [3,4,5]<|GA.eqv (i:=6) (v:=vI (sep.length:Int)) AA (CA sep)<|GA.int (i:=7) (Lib.indexByte s (sep.headD 0)+(sep.length:Int)) AA (by have E:=Mj s (sep.headD 0); omega)<|GA.IF (i:=8) (t:=9) (lo:=some (vI (Lib.indexByte s (sep.headD 0)+(sep.length:Int)))) (hi:=none) (s:=s) AA ((Lib.indexByte s (sep.headD 0)+(sep.length:Int)).toNat) s.length AA AA (.inr ⟨_,_,rfl,by have E:=Mj s (sep.headD 0); omega⟩) (.inl ⟨rfl,rfl⟩) (by have E:=Mj s (sep.headD 0); omega) (by have E:=Mj s (sep.headD 0); omega)<|.r [9]<|GA.Dn Z fun w Z=>.r 2<|.d<|T.r3 func118 results118 (.t (.string (bs ((s.take ((Lib.indexByte s (sep.headD 0)).toNat)).drop 0)))) (.t (.string (bs ((s.take s.length).drop ((Lib.indexByte s (sep.headD 0)+(sep.length:Int)).toNat))))) (.t (.bool true)) ⟨(K7 (congrArg (fun s=>Value.string (bs s)) (by rw [RB p1 ‹_›])) (congrArg (fun s=>Value.string (bs s)) (by rw [RB p1 ‹_›])) (AG (by rw [RB p1 ‹_›]))),Z.xt⟩) fun aa=>.d<|.cf<|.sk<|.s<|.g<|.r 4<|.d<|T.r3 func118 results118 (.t (vT s)) (.t (.string (bs []))) (.t (.bool false)) ⟨(K7 (congrArg (fun s=>Value.string (bs s)) (by rw [RC ‹_›])) (congrArg (fun s=>Value.string (bs s)) (by rw [RC ‹_›])) (AG (by rw [RC ‹_›]))),Z.xt⟩
theorem IY (s:Str) (sep:Str){F:Nat→Prop}  (p0:s.length≤1000000) (p1:sep.length=1):Calls Tryz.prog 61 [.string (bs s),.string (bs sep)].toArray w (Al fun rv w'=>rv=.tuple #[.string (bs ((DL s (sep.headD 0)).1)),.string (bs ((DL s (sep.headD 0)).2.1)),.bool ((DL s (sep.headD 0)).2.2)]∧Ext w w'):=by
 refine goT func61 ?_
 have Z:=St.i0 F w
 exact .s<|.g<|.r 3<|.d<|.s<|.g<|.r 2<|RG.C0 (Fv s sep p0 p1 (F:=all)) Z fun w Z=>.r 6<|.d<|T.r3 func61 results61 (.t (.string (bs ((DL s (sep.headD 0)).1)))) (.t (.string (bs ((DL s (sep.headD 0)).2.1)))) (.t (.bool ((DL s (sep.headD 0)).2.2))) ⟨(K7 (congrArg (fun s=>Value.string (bs s)) AF) (congrArg (fun s=>Value.string (bs s)) AF) (AG AF)),Z.xt⟩
theorem Eb (s:Str) (p:Str){F:Nat→Prop}   : Calls Tryz.prog 186 [.string (bs s),.string (bs p)].toArray w (Al fun rv w'=>rv=.bool (LO s p)∧Ext w w'):=by
 refine goT func186 ?_
 have Z:=St.i0 F w
 exact .s<|.g<|.r 1<|.d<|.s<|.g<|.r 1<|RG.eqv (v:=vI (s.length:Int)) AA (CA s)<|.r 1<|RG.eqv (v:=vI (p.length:Int)) AA (CA p)<|.bp ((s.length:Int)≥(p.length:Int)) (fun E=>.r 3<|RG.eqv (v:=vI (p.length:Int)) AA (CA p)<|RG.IF (t:=9) (lo:=none) (hi:=some (vI (p.length:Int))) (s:=s) 0 p.length AA AA (.inl ⟨rfl,rfl⟩) (.inr ⟨_,_,rfl,by omega⟩) AB AB<|.r 1<|RG.eqv (v:=.bool ((((s.take p.length).drop 0)==p))) AA (Cv ((s.take p.length).drop 0) p)<|.r 2<|.d<|T.rt func186 results186 (.bool (((s.take p.length).drop 0)==p)) ⟨(AG (by exact VT ‹_›)),Z.xt⟩) fun E=>.r 9<|.d<|T.rt func186 results186 (.bool false) ⟨(AG (by exact XS ‹_›)),Z.xt⟩
theorem Ec (s:Str) (p:Str){F:Nat→Prop}  (p0:s.length≤1000000):Calls Tryz.prog 195 [.string (bs s),.string (bs p)].toArray w (Al fun rv w'=>rv=.bool (Mk s p)∧Ext w w'):=by
 refine goT func195 ?_
 have Z:=St.i0 F w
 exact .s<|.g<|.r 1<|.d<|.s<|.g<|.r 1<|RG.eqv (v:=vI (s.length:Int)) AA (CA s)<|.r 1<|RG.eqv (v:=vI (p.length:Int)) AA (CA p)<|.bp ((s.length:Int)≥(p.length:Int)) (fun E=>.r 3<|RG.eqv (v:=vI (s.length:Int)) AA (CA s)<|.r 1<|RG.eqv (v:=vI (p.length:Int)) AA (CA p)<|.it ((s.length:Int) - (p.length:Int))<|RG.IF (t:=9) (lo:=some (vI ((s.length:Int) - (p.length:Int)))) (hi:=none) (s:=s) (((s.length:Int) - (p.length:Int)).toNat) s.length AA AA (.inr ⟨_,_,rfl,by omega⟩) (.inl ⟨rfl,rfl⟩) AB AB<|.r 1<|RG.eqv (v:=.bool ((((s.take s.length).drop (((s.length:Int) - (p.length:Int)).toNat))==p))) AA (Cv ((s.take s.length).drop (((s.length:Int) - (p.length:Int)).toNat)) p)<|.r 2<|.d<|T.rt func195 results195 (.bool (((s.take s.length).drop (((s.length:Int) - (p.length:Int)).toNat))==p)) ⟨(AG (by exact VU ‹_›)),Z.xt⟩) fun E=>.r 12<|.d<|T.rt func195 results195 (.bool false) ⟨(AG (by exact XT ‹_›)),Z.xt⟩
theorem Ed (s:Str) (p:Str){F:Nat→Prop}   : Calls Tryz.prog 131 [.string (bs s),.string (bs p)].toArray w (Al fun rv w'=>rv=.tuple #[.string (bs ((Bm s p).1)),.bool ((Bm s p).2)]∧Ext w w'):=by
 refine goT func131 ?_
 have Z:=St.i0 F w
 refine .s<|.g<|.r 2<|.d<|.s<|.s<|.g<|.r 2<|RG.C0 (Eb s p (F:=all)) Z fun w Z=>?_
 cases E:(LO s p)
 ·exact .r 1<|.d<|.ct<|.s<|.g<|.r 3<|.d<|T.r2 func131 results131 (.t (vT s)) (.t (.bool false)) ⟨(Bk (congrArg (fun s=>Value.string (bs s)) (by rw [VW ‹_›])) (AG (by rw [VW ‹_›]))),Z.xt⟩
 exact .r 1<|.d<|.cf<|.sk<|.s<|.g<|.r 2<|RG.eqv (v:=vI (p.length:Int)) AA (CA p)<|RG.IF (t:=9) (lo:=some (vI (p.length:Int))) (hi:=none) (s:=s) p.length s.length AA AA (.inr ⟨_,_,rfl,by omega⟩) (.inl ⟨rfl,rfl⟩) (by have q1:=QC ‹_›; omega) (by have q1:=QC ‹_›; omega)<|.r 2<|.d<|T.r2 func131 results131 (.t (.string (bs ((s.take s.length).drop p.length)))) (.t (.bool true)) ⟨(Bk (congrArg (fun s=>Value.string (bs s)) (by rw [VV ‹_›])) (AG (by rw [VV ‹_›]))),Z.xt⟩
theorem II (s:Str) (p:Str){F:Nat→Prop}   : Calls Tryz.prog 69 [.string (bs s),.string (bs p)].toArray w (Al fun rv w'=>rv=.tuple #[.string (bs ((Bm s p).1)),.bool ((Bm s p).2)]∧Ext w w'):=by
 refine goT func69 ?_
 have Z:=St.i0 F w
 exact .s<|.g<|.r 2<|.d<|.s<|.g<|.r 2<|RG.C0 (Ed s p (F:=all)) Z fun w Z=>.r 4<|.d<|T.r2 func69 results69 (.t (.string (bs ((Bm s p).1)))) (.t (.bool ((Bm s p).2))) ⟨(Bk (congrArg (fun s=>Value.string (bs s)) AF) (AG AF)),Z.xt⟩
theorem Ee (s:Str) (p:Str){F:Nat→Prop}  (p0:s.length≤1000000):Calls Tryz.prog 141 [.string (bs s),.string (bs p)].toArray w (Al fun rv w'=>rv=.tuple #[.string (bs ((EK s p).1)),.bool ((EK s p).2)]∧Ext w w'):=by
 refine goT func141 ?_
 have Z:=St.i0 F w
 refine .s<|.g<|.r 2<|.d<|.s<|.s<|.g<|.r 2<|RG.C0 (Ec s p p0 (F:=all)) Z fun w Z=>?_
 cases aa:(Mk s p)
 ·exact .r 1<|.d<|.ct<|.s<|.g<|.r 3<|.d<|T.r2 func141 results141 (.t (vT s)) (.t (.bool false)) ⟨(Bk (congrArg (fun s=>Value.string (bs s)) (by rw [VY ‹_›])) (AG (by rw [VY ‹_›]))),Z.xt⟩
 exact .r 1<|.d<|.cf<|.sk<|.s<|.g<|.r 2<|RG.eqv (v:=vI (s.length:Int)) AA (CA s)<|.r 1<|RG.eqv (v:=vI (p.length:Int)) AA (CA p)<|RG.int ((s.length:Int) - (p.length:Int)) AA (by have E:=Ho ‹_›; omega)<|RG.IF (t:=9) (lo:=none) (hi:=some (vI ((s.length:Int) - (p.length:Int)))) (s:=s) 0 (((s.length:Int) - (p.length:Int)).toNat) AA AA (.inl ⟨rfl,rfl⟩) (.inr ⟨_,_,rfl,by have E:=Ho ‹_›; omega⟩) (by have E:=Ho ‹_›; omega) (by have E:=Ho ‹_›; omega)<|.r 2<|.d<|T.r2 func141 results141 (.t (.string (bs ((s.take (((s.length:Int) - (p.length:Int)).toNat)).drop 0)))) (.t (.bool true)) ⟨(Bk (congrArg (fun s=>Value.string (bs s)) (by rw [VX ‹_›])) (AG (by rw [VX ‹_›]))),Z.xt⟩
theorem IJ (s:Str) (p:Str){F:Nat→Prop}  (p0:s.length≤1000000):Calls Tryz.prog 73 [.string (bs s),.string (bs p)].toArray w (Al fun rv w'=>rv=.tuple #[.string (bs ((EK s p).1)),.bool ((EK s p).2)]∧Ext w w'):=by
 refine goT func73 ?_
 have Z:=St.i0 F w
 exact .s<|.g<|.r 2<|.d<|.s<|.g<|.r 2<|RG.C0 (Ee s p p0 (F:=all)) Z fun w Z=>.r 4<|.d<|T.r2 func73 results73 (.t (.string (bs ((EK s p).1)))) (.t (.bool ((EK s p).2))) ⟨(Bk (congrArg (fun s=>Value.string (bs s)) AF) (AG AF)),Z.xt⟩
end Go.Proofs.YtckdhcbbgmiccaaGreatDoor
namespace Go.Proofs.YtckdhcbbgmiccaaGreatDoor
set_option maxRecDepth 100000
set_option maxHeartbeats 4000000
variable {w:World} {F:Nat→Prop} {a1:Option Addr} {n1 c1:Nat}
theorem DP (w_:Str){F:Nat→Prop}  (p0:w_.length≤1000):Calls Tryz.prog 34 [.string (bs w_)].toArray w (Al fun rv w'=>rv=.int .i64 (BK w_)∧Ext w w'):=by
 refine goT func34 ?_
 have Z:=St.i0 F w
 refine .s<|.g<|.r 1<|.d<|.s<|.g<|.r 1<|RG.C0 (II w_ [45] (F:=all)) Z fun w Z=>.r 2 ?_
 cases ac:(Bm w_ [45]).2
 ·refine .r 3<|.d<|.s<|.s<|.g<|.r 1<|RG.eqv (v:=vI ((Bm w_ [45]).1.length:Int)) AA (CA ((Bm w_ [45]).1))<|RG.C0 (Bp ((Bm w_ [45]).1.length:Int) 1 2 (F:=all)) Z fun w Z=>?_
  cases E:(inR ((Bm w_ [45]).1.length:Int) 1 2)
  ·exact .r 6<|.d<|.ct<|.s<|.g<|.r 1<|.d<|T.rt func34 results34 (vI (-999)) ⟨(congrArg (Value.int .i64) (by exact (QD ‹_›).symm)),Z.xt⟩
  have af:=Bd E
  refine .r 3<|RG.C0 (Hr ((Bm w_ [45]).1) [48,49,50,51,52,53,54,55,56,57] (by have q1:=Bd (by assumption:inR _ 1 2=true); omega) rfl (F:=all)) Z fun w Z=>RG.eqv (v:=.bool (!(Lib.trimS ((Bm w_ [45]).1) [48,49,50,51,52,53,54,55,56,57]==[]))) AA (K3 (Lib.trimS ((Bm w_ [45]).1) [48,49,50,51,52,53,54,55,56,57]) []) ?_
  cases ag:(Lib.trimS ((Bm w_ [45]).1) [48,49,50,51,52,53,54,55,56,57]==[])
  ·exact .r 1<|.d<|.ct<|.s<|.g<|.r 1<|.d<|T.rt func34 results34 (vI (-999)) ⟨(congrArg (Value.int .i64) (by exact (N4 ‹_› ‹_›).symm)),Z.xt⟩
  exact .r 1<|.d<|.cf<|.sk<|.s<|.g<|.r 1<|RG.C0 (Hs ((Bm w_ [45]).1) (SK ‹_› ‹_›) (by have q1:=Bd (by assumption:inR _ 1 2=true); omega) (F:=all)) Z fun w Z=>.r 5<|.d<|.s<|.s<|.g<|.r 1<|.d<|.cf<|.sk<|.s<|.g<|.r 2<|.d<|T.rt func34 results34 (vI (Fm ((Bm w_ [45]).1))) ⟨(congrArg (Value.int .i64) (by exact (ZD ‹_› ‹_› ‹_›).symm)),Z.xt⟩
 refine .r 3<|.d<|.s<|.s<|.g<|.r 1<|RG.eqv (v:=vI ((Bm w_ [45]).1.length:Int)) AA (CA ((Bm w_ [45]).1))<|RG.C0 (Bp ((Bm w_ [45]).1.length:Int) 1 2 (F:=all)) Z fun w Z=>?_
 cases aa:(inR ((Bm w_ [45]).1.length:Int) 1 2)
 ·exact .r 6<|.d<|.ct<|.s<|.g<|.r 1<|.d<|T.rt func34 results34 (vI (-999)) ⟨(congrArg (Value.int .i64) (by exact (QD ‹_›).symm)),Z.xt⟩
 have ai:=Bd aa
 refine .r 3<|RG.C0 (Hr ((Bm w_ [45]).1) [48,49,50,51,52,53,54,55,56,57] (by have q1:=Bd (by assumption:inR _ 1 2=true); omega) rfl (F:=all)) Z fun w Z=>RG.eqv (v:=.bool (!(Lib.trimS ((Bm w_ [45]).1) [48,49,50,51,52,53,54,55,56,57]==[]))) AA (K3 (Lib.trimS ((Bm w_ [45]).1) [48,49,50,51,52,53,54,55,56,57]) []) ?_
 cases aj:(Lib.trimS ((Bm w_ [45]).1) [48,49,50,51,52,53,54,55,56,57]==[])
 ·exact .r 1<|.d<|.ct<|.s<|.g<|.r 1<|.d<|T.rt func34 results34 (vI (-999)) ⟨(congrArg (Value.int .i64) (by exact (N4 ‹_› ‹_›).symm)),Z.xt⟩
 exact .r 1<|.d<|.cf<|.sk<|.s<|.g<|.r 1<|RG.C0 (Hs ((Bm w_ [45]).1) (SK ‹_› ‹_›) (by have q1:=Bd (by assumption:inR _ 1 2=true); omega) (F:=all)) Z fun w Z=>.r 5<|.d<|.s<|.s<|.g<|.r 1<|.d<|.ct<|.s<|.g<|.r 1<|RG.int (0 - (Fm ((Bm w_ [45]).1))) AA (by have q1:=QA (by assumption:inR _ 1 2=true); omega)<|.r 1<|.d<|T.rt func34 results34 (vI (0 - (Fm ((Bm w_ [45]).1)))) ⟨(congrArg (Value.int .i64) (by exact (ZC ‹_› ‹_› ‹_›).symm)),Z.xt⟩
theorem Js (words:List Txt) (at_:Int) (h1:RepS w F a1 n1 c1 words) (p0:0≤at_) (p1:∀ t∈words,t.s.length≤1000):Calls Tryz.prog 35 [.slice a1 n1 c1,.int .i64 at_].toArray w (Al fun rv w'=>rv=.int .i64 ((if (at_:Int)≥(words.length:Int) then 9 else Az words ((at_:Int).toNat)))∧Ext w w'):=by
 cases h1.len
 refine goT func35 ?_
 have Z:=(St.i0 F w).p h1
 have ae:=h1.max
 exact .s<|.g<|.r 1<|.d<|.s<|.s<|.g<|.r 3<|.bp (at_≥(words.length:Int)) (fun aa=>.d<|.ct<|.s<|.g<|.r 1<|.d<|T.rt func35 results35 (vI 9) ⟨(congrArg (Value.int .i64) (by rw [if_pos ‹_›])),Z.xt⟩) fun aa=>.d<|.cf<|.sk<|.s<|.g<|.r 2<|gxm words (at_.toNat) fun ab E ac=>RG.Jx 0 at_ E Z<|Z.el 0 E fun Z=>RG.Lh 0 0 Z<|RG.C0 (DP ab.s (p1 _ ‹_›) (F:=all)) Z fun w Z=>.r 1<|.d<|T.rt func35 results35 (vI (BK ab.s)) ⟨(congrArg (Value.int .i64) (by (rw [if_neg ‹_›,Dl ‹_›]))),Z.xt⟩
theorem LS (text_:Str){F:Nat→Prop}  (p0:text_.length≤999):Calls Tryz.prog 32 [.string (bs text_)].toArray w (Al fun rv w'=>(∃ v0,rv=.tuple #[v0,.bool ((Ba text_).2)]∧VL (ge w.heap.size) w' ((Ba text_).1:List Tag) v0)∧Ext w w'):=by
 refine goT func32 ?_
 have Z:=St.i0 F w
 refine .s<|.g<|.r 2<|.d<|.s<|.g<|RG.N0 Tag 0 Z fun ag w Z=>.r 1<|.d<|.s<|.s<|.g<|.r 1<|RG.CL (D7 text_ [44] AB rfl (F:=all)) Z fun ah ai w Z=>?_
 have al:=Z.mf 0 (AZ text_ ([44].headD 0))
 refine .r 2<|.d<|.b 0<|T.Lp (([]:List Tag),ag,(0:Nat),(0:Nat)) (fun (out,r_out,c_out,k)=>([(0,vT text_),(4,vS r_out out.length c_out),(12,.slice ah ((AZ text_ ([44].headD 0)).length) ai),(13,vI (((AZ text_ ([44].headD 0)).length):Int)),(14,vI (k:Int))],[(0,.own 0 r_out 96 c_out out)],[],(AZ text_ ([44].headD 0)).length - k,(k≤(AZ text_ ([44].headD 0)).length)∧(out.length≤k)∧(out++((AZ text_ ([44].headD 0)).drop k).map (fun t=>LQ t.s)=Fo text_))) [] Z ⟨AD,AD,AF⟩ ?_
 rintro ⟨out,r_out,c_out,k⟩ aB w Z ⟨am,ao,aq⟩ ac
 have ar:=Z.mo 0 out
 refine .s<|.g<|.bp ((k:Int)< (((AZ text_ ([44].headD 0)).length):Int)) (fun ae=>?_) (fun ae=>?_)
 ·exact .d<|.s<|.ct<|.sk<|.s<|.b 1<|.s<|.g<|gxb (AZ text_ ([44].headD 0)) k fun aa ab ax af=>RG.Ix 0 ab Z<|Z.el 0 ab fun Z=>RG.Lh 0 0 Z<|.r 1<|.d<|.s<|.g<|.r 1<|RG.C0 (IY aa.s [61] (by have E:=(BO text_ 44).1 _ ‹_›; omega) rfl (F:=all)) Z fun w Z=>.r 7<|.d<|.g<|.r 4<|RG.Nb 1 Z fun aC w Z=>RG.Ap (hs:=by exact (by have E:=(BO text_ ([44].headD 0)).2; omega)) 0 0 out (⟨(DL aa.s ([61].headD 0)).1,(DL aa.s ([61].headD 0)).2.1⟩:Tag) [] Z fun aj ak w Z=>.r 1<|.d<|.ib 1<|.g<|.it ((k:Int)+1)<|.r 1<|.d<|ac ((out++[(⟨(DL aa.s ([61].headD 0)).1,(DL aa.s ([61].headD 0)).2.1⟩:Tag)]),aj,ak,k+1) _ _ AA (Z.to 0 [] 1) ⟨AB,(by (simp; omega)),(by exact TT ‹_› ‹_›)⟩ (by (simp only []; omega))
 refine .d<|.s<|.cf<|.x 0 rfl<|.s<|.s<|.g<|.r 1<|RG.eqv (v:=.bool ((text_==[]))) AA (Cv text_ []) ?_
 cases az:(text_==[])
 ·refine .r 2<|RG.C0 (HI out (Z.oa 0) (by have E:out=Fo text_:=CW (by assumption:out++((AZ text_ ([44].headD 0)).drop k).map (fun t=>LQ t.s)=Fo text_) AB; rw [E]; exact XU p0)) Z fun w Z=>.r 1<|RG.eqv (v:=.bool (!(Ei out==text_))) AA (K3 (Ei out) text_) ?_
  cases aA:(Ei out==text_)
  ·exact .r 1<|.d<|.ct<|.s<|.g<|RG.N0 Tag 0 Z fun aD w Z=>.r 2<|.d<|T.r2 func32 results32 (.T _) (.t (.bool false)) ⟨⟨_,(Bk rfl (AG (by have E:out=Fo text_:=CW (by assumption:out++((AZ text_ ([44].headD 0)).drop k).map (fun t=>LQ t.s)=Fo text_) AB; subst E; rw [Jm (.inr ‹_›)]))),Z.rM 0 ([]:List Tag) (by have E:out=Fo text_:=CW (by assumption:out++((AZ text_ ([44].headD 0)).drop k).map (fun t=>LQ t.s)=Fo text_) AB; subst E; rw [Jm (.inr ‹_›)])⟩,Z.xt⟩
  exact .r 1<|.d<|.cf<|.sk<|.s<|.g<|.r 3<|.d<|T.r2 func32 results32 (.T _) (.t (.bool true)) ⟨⟨_,(Bk rfl (AG (by have E:out=Fo text_:=CW (by assumption:out++((AZ text_ ([44].headD 0)).drop k).map (fun t=>LQ t.s)=Fo text_) AB; subst E; rw [N6 ‹_› ‹_›]))),Z.rM 0 out (by have E:out=Fo text_:=CW (by assumption:out++((AZ text_ ([44].headD 0)).drop k).map (fun t=>LQ t.s)=Fo text_) AB; subst E; rw [N6 ‹_› ‹_›])⟩,Z.xt⟩
 exact .r 6<|.d<|.ct<|.s<|.g<|RG.N0 Tag 0 Z fun aE w Z=>.r 2<|.d<|T.r2 func32 results32 (.T _) (.t (.bool false)) ⟨⟨_,(Bk rfl (AG (by have E:out=Fo text_:=CW (by assumption:out++((AZ text_ ([44].headD 0)).drop k).map (fun t=>LQ t.s)=Fo text_) AB; subst E; rw [Jm (.inl ‹_›)]))),Z.rM 0 ([]:List Tag) (by have E:out=Fo text_:=CW (by assumption:out++((AZ text_ ([44].headD 0)).drop k).map (fun t=>LQ t.s)=Fo text_) AB; subst E; rw [Jm (.inl ‹_›)])⟩,Z.xt⟩
theorem Kk (text_:Str){F:Nat→Prop}  (p0:text_.length≤1000):Calls Tryz.prog 47 [.string (bs text_)].toArray w (Al fun rv w'=>(∃ v0,rv=.tuple #[v0,.bool (Gp text_)]∧VL (ge w.heap.size) w' (EI text_:List Tag) v0)∧Ext w w'):=by
 refine goT func47<|.s<|.g<|.r 2<|.d<|.s<|.g<|.r 1<|.cl (F5 text_ AB (w:=w) (F:=all)) ?_
 rintro dC dD ⟨⟨dE,rfl,⟨b0,b6,rfl,ab⟩⟩,bh⟩
 have bi:∀ q_∈([]:List Nat),q_< w.heap.size:=all_nil
 have b7:Gb w.heap.size w.heap.size:=(Nat.le_refl _)
 have E:=bh
 have ab:=ab.fr bi b7
 have c8:=ab.max
 refine .r 2 ?_
 cases da:(BI text_).2
 ·refine .r 3<|.d<|.s<|.g<|.ns 0 96 [] fun aq aK aL bj b8 b9=>?_
  have cd:=E.cn aL
  replace ⟨ab,E⟩:=(sn [] bj aL).g2 ab E
  have ce:Own (α:=Tag) aK aq 96 (nin (ge w.heap.size) [aq]) 0 0 []:=Own.BX b8
  refine .r 1<|.d<|.s<|.s<|.g<|.r 1<|.d<|.b 0<|T.loop (X:=(List Tag) × Nat × Nat × Nat × Nat) (([]:List Tag),aq,0,0,0) (fun (out,r_out,n_out,c_out,i)=>[(4,.slice b0 ((BI text_).1.length) b6),(5,.bool false),(6,vS r_out n_out c_out),(7,vI (i:Int))]) (fun (out,r_out,n_out,c_out,i) bg=>Chg (ins [aq]) aK bg∧Own bg r_out 96 (nin (ge w.heap.size) [r_out]) n_out c_out out∧OrB r_out aq aK.heap.size∧(i≤(BI text_).1.length)∧(out.length≤i)∧(Cn out ((BI text_).1.drop i)=Cn [] (BI text_).1)) (fun (out,r_out,n_out,c_out,i)=>(BI text_).1.length - i) AA ⟨AA,AA,AA,AA,trivial⟩ ⟨Chg.refl _ _,ce,FX,AD,AD,AD⟩ ?_
  rintro ⟨out,r_out,n_out,c_out,i⟩ dF bg ⟨af,ac,aE,db,de,df⟩ aM
  have dh:=D2 aE cd E.size
  have cg:Cov (ins [aq]) aK aq:=⟨.inl AI⟩
  have dj:=D2 aE cg (Nat.le_refl _)
  have bk:Mv [aq] [r_out] aK bg:=Mv.inl af (all_cons AI all_nil) (all_cons (Gs aE AI) all_nil)
  replace ⟨ab,E⟩:=(sp bk af).g2 ab E
  have dm:=ac.len; have dp:=ac.max
  refine .s<|.s<|.g<|.r 3<|.bp ((i:Int)< (((BI text_).1.length):Int)) (fun ci=>?_) (fun ci=>?_)
  ·refine .d<|.ct<|.sk<|.s<|.b 1<|.s<|.s<|.g<|.r 2 ?_
   have cj:i< (BI text_).1.length:=AB
   refine .ix i 3 ab cj<|.r 1 ?_
   obtain ⟨aH,aN⟩:∃ y,((BI text_).1)[i]? = some y:=⟨_,AU AB⟩
   have dq:=drop_at aN
   obtain ⟨_,rfl,bm⟩:=ab.elem i aH aN
   refine .lh 2 bm<|.d ?_
   cases dt:aH.no
   ·refine .cf<|.sk<|.g<|.r 3 ?_
    have ck:i< (BI text_).1.length:=AB
    refine .ix i 3 ab ck<|.r 1<|.lg 0 bm<|.ns 1 96 [vT aH.tag.key,vT aH.tag.val] fun cm dG aO bn co cp=>?_
    have bo:=Ad aO ac.lt
    have cq:=Bq aO E.size
    replace ⟨ab,ac,E,af⟩:=(se [r_out] bn).g4 ab ac E af
    have aP:nin (ge w.heap.size) [r_out] cm∧cm≠r_out:=GH cq (all_cons bo all_nil) bo
    refine RG.DV (T:=63) (ty:=63) (y:=aH.tag) ac co AA AA rfl aP (by have q1:=H5 text_; omega) fun cJ cK dH ar aB bq=>?_
    have cr:=J2 aB aE af.size
    replace ⟨ab,E,af⟩:=(sa [r_out] bq aB).g3 ab E af
    replace ar:=ar.rn r_out
    exact .r 1<|.d<|.ib 1<|.g<|.r 1<|RG.int ((i:Int)+1) AA (by have q1:=H5 text_; omega)<|.r 1<|.d<|aM ((out++[aH.tag]),cJ,n_out+1,cK,i+1) _ _ ⟨AA,AA,AA,AA,trivial⟩ ⟨af,ar,cr,AB,(by simp; omega),(by exact PU ‹_› ‹_› ‹_›)⟩ (by (simp only []; omega))
   refine .ct<|.s<|.g<|.ns 0 96 [] fun aQ cu aF br cw cx=>?_
   have dw:=Ad aF ac.lt
   have cy:=Bq aF E.size
   replace ⟨ab,ac,E⟩:=(sn [r_out] br aF).g3 ab ac E
   have cz:Own (α:=Tag) cu aQ 96 (nin (ge w.heap.size) [aQ,r_out]) 0 0 []:=Own.BX cw
   refine .r 2<|.d ?_
   have cL:=cz.sl cy
   replace ⟨ab,ac⟩:=(sd cu [aQ,r_out] aQ).g2 ab ac
   exact .r2 func47 results47 (.t (vS aQ 0 0)) (.t (.bool false)) ⟨⟨_,(Bk rfl (AG (by rw [QE (JL (Y:=Cn [] (BI text_).1) ‹_› ‹_› ‹_›)]))),(cL.vl (by rw [PV (JL (Y:=Cn [] (BI text_).1) ‹_› ‹_› ‹_›)]) (fun _ _ h=>h.1))⟩,E⟩
  refine .d<|.cf<|.x 0 rfl<|.s<|.s<|.g<|.r 7<|.d<|.ct<|.s<|.g<|.ns 0 96 [] fun aR bu ak aS bA bB=>?_
  have cM:=Ad ak ac.lt
  have bC:=Bq ak E.size
  replace ⟨ab,E⟩:=(sn [r_out] aS ak).g2 ab E
  have bD:Own (α:=Tag) bu aR 96 (nin (ge w.heap.size) [aR,r_out]) 0 0 []:=Own.BX bA
  refine .r 2<|.d ?_
  have cA:=bD.sl bC
  replace ab:=(sd bu [aR,r_out] aR).g1 ab
  exact .r2 func47 results47 (.t (vS aR 0 0)) (.t (.bool false)) ⟨⟨_,(Bk rfl (AG (by rw [QF ‹_› AB (.inl ‹_›)]))),(cA.vl (by rw [PW ‹_› AB (.inl ‹_›)]) (fun _ _ h=>h.1))⟩,E⟩
 refine .r 3<|.d<|.s<|.g<|.ns 0 96 [] fun ag ax al aT bE bF=>?_
 have bG:=Bq al E.size
 have bH:=E.cn al
 replace ⟨ab,E⟩:=(sn [] aT al).g2 ab E
 have bI:Own (α:=Tag) ax ag 96 (nin (ge w.heap.size) [ag]) 0 0 []:=Own.BX bE
 refine .r 1<|.d<|.s<|.s<|.g<|.r 1<|.d<|.b 0<|T.loop (X:=(List Tag) × Nat × Nat × Nat × Nat) (([]:List Tag),ag,0,0,0) (fun (out,r_out,n_out,c_out,i)=>[(4,.slice b0 ((BI text_).1.length) b6),(5,.bool true),(6,vS r_out n_out c_out),(7,vI (i:Int))]) (fun (out,r_out,n_out,c_out,i) ay=>Chg (ins [ag]) ax ay∧Own ay r_out 96 (nin (ge w.heap.size) [r_out]) n_out c_out out∧OrB r_out ag ax.heap.size∧(i≤(BI text_).1.length)∧(out.length≤i)∧(Cn out ((BI text_).1.drop i)=Cn [] (BI text_).1)) (fun (out,r_out,n_out,c_out,i)=>(BI text_).1.length - i) AA ⟨AA,AA,AA,AA,trivial⟩ ⟨Chg.refl _ _,bI,FX,AD,AD,AD⟩ ?_
 rintro ⟨out,r_out,n_out,c_out,i⟩ dx ay ⟨ae,aa,ah,cN,cO,cP⟩ aI
 have bJ:=QY ah bG E.size
 have cQ:=D2 ah bH E.size
 have bK:Cov (ins [ag]) ax ag:=⟨.inl AI⟩
 have cR:=D2 ah bK (Nat.le_refl _)
 have aU:Mv [ag] [r_out] ax ay:=Mv.inl ae (all_cons AI all_nil) (all_cons (Gs ah AI) all_nil)
 replace ⟨ab,E⟩:=(sp aU ae).g2 ab E
 have cS:=aa.len; have cT:=aa.max
 refine .s<|.s<|.g<|.r 3<|.bp ((i:Int)< (((BI text_).1.length):Int)) (fun bL=>?_) (fun bL=>?_)
 ·refine .d<|.ct<|.sk<|.s<|.b 1<|.s<|.s<|.g<|.r 2 ?_
  have bM:i< (BI text_).1.length:=AB
  refine .ix i 3 ab bM<|.r 1 ?_
  obtain ⟨aj,aC⟩:∃ y,((BI text_).1)[i]? = some y:=⟨_,AU AB⟩
  have cU:=drop_at aC
  obtain ⟨_,rfl,aV⟩:=ab.elem i aj aC
  refine .lh 2 aV<|.d ?_
  cases cV:aj.no
  ·refine .cf<|.sk<|.g<|.r 3 ?_
   have bN:i< (BI text_).1.length:=AB
   refine .ix i 3 ab bN<|.r 1<|.lg 0 aV<|.ns 1 96 [vT aj.tag.key,vT aj.tag.val] fun bv dy aD aW bO bP=>?_
   have aX:=Ad aD aa.lt
   have bQ:=Bq aD E.size
   replace ⟨aa,E,ae⟩:=(se [r_out] aW).g3 aa E ae
   have aJ:nin (ge w.heap.size) [r_out] bv∧bv≠r_out:=GH bQ (all_cons aX all_nil) aX
   refine RG.DV (T:=63) (ty:=63) (y:=aj.tag) aa bO AA AA rfl aJ (by have q1:=H5 text_; omega) fun cC cD dz ai aG aY=>?_
   have bR:=J2 aG ah ae.size
   replace ⟨E,ae⟩:=(s1 aY).g2 E ae
   replace ai:=ai.rn r_out
   exact .r 1<|.d<|.ib 1<|.g<|.r 1<|RG.int ((i:Int)+1) AA (by have q1:=H5 text_; omega)<|.r 1<|.d<|aI ((out++[aj.tag]),cC,n_out+1,cD,i+1) _ _ ⟨AA,AA,AA,AA,trivial⟩ ⟨ae,ai,bR,AB,(by simp; omega),(by exact PU ‹_› ‹_› ‹_›)⟩ (by (simp only []; omega))
  refine .ct<|.s<|.g<|.ns 0 96 [] fun az bw am aZ bS bT=>?_
  have cY:=Ad am aa.lt
  have bU:=Bq am E.size
  replace ⟨aa,E⟩:=(sn [r_out] aZ am).g2 aa E
  have bV:Own (α:=Tag) bw az 96 (nin (ge w.heap.size) [az,r_out]) 0 0 []:=Own.BX bS
  refine .r 2<|.d ?_
  have cE:=bV.sl bU
  replace aa:=(sd bw [az,r_out] az).g1 aa
  exact .r2 func47 results47 (.t (vS az 0 0)) (.t (.bool false)) ⟨⟨_,(Bk rfl (AG (by rw [QE (JL (Y:=Cn [] (BI text_).1) ‹_› ‹_› ‹_›)]))),(cE.vl (by rw [PV (JL (Y:=Cn [] (BI text_).1) ‹_› ‹_› ‹_›)]) (fun _ _ h=>h.1))⟩,E⟩
 refine .d<|.cf<|.x 0 rfl<|.s<|.s<|.g<|.r 4<|.cl (GJ out (aa.rep) (w:=ay) (F:=all)) ?_
 rintro dA dB ⟨rfl,ba⟩
 replace ⟨aa,E⟩:=(se [r_out] ba).g2 aa E
 cases cZ:(Ar out)
 ·refine .r 2<|.d<|.ct<|.s<|.g<|.ns 0 96 [] fun aA bz ao bd bW bX=>?_
  have c7:=Ad ao aa.lt
  have bY:=Bq ao E.size
  replace ⟨aa,E⟩:=(sn [r_out] bd ao).g2 aa E
  have bZ:Own (α:=Tag) bz aA 96 (nin (ge w.heap.size) [aA,r_out]) 0 0 []:=Own.BX bW
  refine .r 2<|.d ?_
  have cF:=bZ.sl bY
  replace aa:=(sd bz [aA,r_out] aA).g1 aa
  exact .r2 func47 results47 (.t (vS aA 0 0)) (.t (.bool false)) ⟨⟨_,(Bk rfl (AG (by rw [QF ‹_› AB (.inr ‹_›)]))),(cF.vl (by rw [PW ‹_› AB (.inr ‹_›)]) (fun _ _ h=>h.1))⟩,E⟩
 refine .r 2<|.d<|.cf<|.sk<|.s<|.g<|.r 3<|.d ?_
 have cG:=aa.sl bJ
 exact .r2 func47 results47 (.t (vS r_out n_out c_out)) (.t (.bool true)) ⟨⟨_,(Bk rfl (AG (by rw [VZ ‹_› AB ‹_› ‹_›]))),(cG.vl (by rw [T9 ‹_› AB ‹_› ‹_›]) (fun _ _ h=>h.1))⟩,E⟩
theorem Jt (f:List Cnd) (h1:RepS w F a1 n1 c1 f) (p0:Vb f):Calls Tryz.prog 74 [.slice a1 n1 c1].toArray w (Al fun rv w'=>rv=.string (bs (Kf f))∧Ext w w'):=by
 refine goT func74 ?_
 obtain ⟨rfl,bJ,h1⟩:=h1.tp
 refine .s<|.g<|.r 1<|.d<|.s<|.s<|.g<|.r 1<|.cl (HH f h1.ta (w:=w) (F:=all)) ?_
 rintro b6 b7 ⟨rfl,ax⟩
 replace h1:=(se [] ax).g1 h1
 have E:=ax
 cases bK:(Cq f)
 ·exact .r 1<|.d<|.ct<|.s<|.g<|.r 1<|.d<|.rt func74 results74 (.string (bs [])) ⟨(congrArg (fun s=>Value.string (bs s)) (by rw [XW ‹_›])),E⟩
 refine .r 1<|.d<|.cf<|.sk<|.s<|.s<|.g<|.r 2<|.eq (f.length:Int) 0 (fun aY=>.d<|.ct<|.s<|.g<|.r 1<|.d<|.rt func74 results74 (.string (bs [42])) ⟨(congrArg (fun s=>Value.string (bs s)) (by rw [ZE ‹_› ‹_›])),E⟩) fun aY=>.d<|.cf<|.sk<|.s<|.g<|.ns 0 9 [] fun ai ay az aJ aZ ba=>?_
 have bd:=E.cn az
 replace ⟨h1,E⟩:=(sn [] aJ az).g2 h1 E
 have bg:Own (α:=Txt) ay ai 9 (nin (ge w.heap.size) [ai]) 0 0 []:=Own.BX aZ
 refine .r 1<|.d<|.s<|.s<|.g<|.r 3<|.d<|.b 0<|T.loop (X:=(List Txt) × Nat × Nat × Nat × Nat) (([]:List Txt),ai,0,0,0) (fun (out,r_out,n_out,c_out,k)=>[(3,vS r_out n_out c_out),(14,.slice a1 f.length c1),(15,vI (f.length:Int)),(16,vI (k:Int))]) (fun (out,r_out,n_out,c_out,k) aA=>Chg (ins [ai]) ay aA∧Own aA r_out 9 (nin (ge w.heap.size) [r_out]) n_out c_out out∧OrB r_out ai ay.heap.size∧(k≤f.length)∧(out.length≤k)∧(out++(f.drop k).map cwT=f.map cwT)) (fun (out,r_out,n_out,c_out,k)=>f.length - k) AA ⟨AA,AA,AA,AA,trivial⟩ ⟨Chg.refl _ _,bg,FX,AB,AD,AF⟩ ?_
 rintro ⟨out,r_out,n_out,c_out,k⟩ b8 aA ⟨aa,ab,aj,bL,bM,bN⟩ ak
 have bO:=D2 aj bd E.size
 have bh:Cov (ins [ai]) ay ai:=⟨.inl AI⟩
 have bP:=D2 aj bh (Nat.le_refl _)
 have aK:Mv [ai] [r_out] ay aA:=Mv.inl aa (all_cons AI all_nil) (all_cons (Gs aj AI) all_nil)
 replace ⟨h1,E⟩:=(sp aK aa).g2 h1 E
 have bQ:=ab.len; have bR:=ab.max
 refine .s<|.g<|.bp ((k:Int)< (f.length:Int)) (fun bi=>?_) (fun bi=>?_)
 ·refine .d<|.s<|.ct<|.sk<|.s<|.b 1<|.s<|.g ?_
  have bj:k< f.length:=AB
  refine .ix k 3 h1 bj ?_
  obtain ⟨ac,aB⟩:∃ y,f[k]? = some y:=⟨_,AU AB⟩
  have bS:=drop_at aB; have bE:=AV aB
  obtain ⟨_,rfl,bk⟩:=h1.elem k ac aB
  refine .lg 0 bk<|.np 114 [.string (bs []),.string (bs []),.bool false] fun am b9 al aL bm bn=>?_
  have bT:=Ad al ab.lt
  have bU:=E.cn al
  have bV:=aa.cn al
  replace ⟨ab,E,aa⟩:=(sn [r_out] aL al).g3 ab E aa
  refine .sc [vT ac.tag.key,vT ac.tag.val,.bool ac.no] bm fun cd aM ae bo=>?_
  replace ⟨ab,E,aa⟩:=(so [am,r_out] aM).g3 ab E aa
  refine .d<|.s<|.g<|.r 1<|.d<|.s<|.s<|.g<|.r 1<|.lb ae<|.d ?_
  cases bW:ac.no
  ·refine .cf<|.sk<|.g<|.r 3<|.lb ae<|.r 1<|RG.cat (t:=9) (s:=ac.tag.key) (u:=[61]) AA (by have q1:=p0.2 _ ‹_›; simp only [List.length_append,List.length_cons,List.length_nil]; omega)<|.r 2<|.lb ae<|RG.cat (t:=9) (s:=(ac.tag.key++[61])) (u:=ac.tag.val) AA (by have q1:=p0.2 _ ‹_›; simp only [List.length_append,List.length_cons,List.length_nil]; omega)<|.ns 1 9 [.string (bs ((ac.tag.key++[61])++ac.tag.val))] fun bq ce ao aN br bu=>?_
   have aO:=Ad ao ab.lt
   have bv:=Ad ao ae.lt
   have bw:=Bq ao E.size
   replace ⟨ab,ae,E,aa⟩:=(se [am,r_out] aN).g4 ab ae E aa
   have aC:nin (ge w.heap.size) [am,r_out] bq∧bq≠r_out:=GH bw (all_cons bv (all_cons aO all_nil)) aO
   refine RG.DV (T:=46) (ty:=46) (y:=(⟨((ac.tag.key++[61])++ac.tag.val)⟩:Txt)) ab br AA AA rfl aC (by have:=p0.1; omega) fun aR bG bz ag aD aP=>?_
   have bA:=J2 aD aj aa.size
   replace ⟨ae,E,aa⟩:=(s1 aP).g3 ae E aa
   replace ag:=ag.rn r_out
   have bX:=ag.len
   refine .r 1<|.d<|.ib 1<|.g<|.it ((k:Int)+1)<|.r 1<|.d ?_
   have bB:Mv [am,aR] [aR] bz bz:=Mv.less (all_cons AJ all_nil)
   replace ag:=(sp bB (Chg.refl nil _)).g1 ag
   exact ak ((out++[(⟨((ac.tag.key++[61])++ac.tag.val)⟩:Txt)]),aR,n_out+1,bG,k+1) _ _ ⟨AA,AA,AA,AA,trivial⟩ ⟨aa,ag,bA,AB,AB,(by exact XY ‹_› ‹_› ‹_›)⟩ (by (simp only []; omega))
  refine .ct<|.g<|.r 1<|.d<|.g<|.r 3<|.lb ae<|.r 1<|RG.cat (t:=9) (s:=ac.tag.key) (u:=[33,61]) AA (by have q1:=p0.2 _ ‹_›; simp only [List.length_append,List.length_cons,List.length_nil]; omega)<|.r 2<|.lb ae<|RG.cat (t:=9) (s:=(ac.tag.key++[33,61])) (u:=ac.tag.val) AA (by have q1:=p0.2 _ ‹_›; simp only [List.length_append,List.length_cons,List.length_nil]; omega)<|.ns 1 9 [.string (bs ((ac.tag.key++[33,61])++ac.tag.val))] fun bC cg ah aE aS aT=>?_
  have aF:=Ad ah ab.lt
  have aU:=Ad ah ae.lt
  have aV:=Bq ah E.size
  replace ⟨ab,E,aa⟩:=(se [am,r_out] aE).g3 ab E aa
  have ar:nin (ge w.heap.size) [am,r_out] bC∧bC≠r_out:=GH aV (all_cons aU (all_cons aF all_nil)) aF
  refine RG.DV (T:=46) (ty:=46) (y:=(⟨((ac.tag.key++[33,61])++ac.tag.val)⟩:Txt)) ab aS AA AA rfl ar (by have:=p0.1; omega) fun aG bD aQ af aq aH=>?_
  have aW:=J2 aq aj aa.size
  replace ⟨E,aa⟩:=(s1 aH).g2 E aa
  replace af:=af.rn r_out
  have bH:=af.len
  refine .r 1<|.d<|.ib 1<|.g<|.it ((k:Int)+1)<|.r 1<|.d ?_
  have aX:Mv [am,aG] [aG] aQ aQ:=Mv.less (all_cons AJ all_nil)
  replace af:=(sp aX (Chg.refl nil _)).g1 af
  exact ak ((out++[(⟨((ac.tag.key++[33,61])++ac.tag.val)⟩:Txt)]),aG,n_out+1,bD,k+1) _ _ ⟨AA,AA,AA,AA,trivial⟩ ⟨aa,af,aW,AB,AB,(by exact XX ‹_› ‹_› ‹_›)⟩ (by (simp only []; omega))
 refine .d<|.s<|.cf<|.x 0 rfl<|.s<|.g<|.r 1<|.cl (Fh out [44] (ab.rep) (Vd p0 ‹_› AB).1 (Vd p0 ‹_› AB).2 (w:=aA) (F:=all)) ?_
 rintro bZ b0 ⟨rfl,aI⟩
 replace E:=(se [] aI).g1 E
 exact .r 1<|.d<|.rt func74 results74 (.string (bs (Lib.join (out.map Txt.s) [44]))) ⟨(congrArg (fun s=>Value.string (bs s)) (by rw [Vc ‹_› ‹_› ‹_› AB])),E⟩
theorem Ju (text_:Str){F:Nat→Prop}  (p0:text_.length≤999):Calls Tryz.prog 36 [.string (bs text_)].toArray w (Al fun rv w'=>(∃ v0,rv=.tuple #[v0,.bool ((Di text_).2)]∧VL (ge w.heap.size) w' ((Di text_).1:List Cnd) v0)∧Ext w w'):=by
 refine goT func36 ?_
 have Z:=St.i0 F w
 refine .s<|.g<|.r 2<|.d<|.s<|.g<|RG.N0 Cnd 0 Z fun ag w Z=>.r 1<|.d<|.s<|.s<|.g<|.r 1<|RG.eqv (v:=.bool ((text_==[42]))) AA (Cv text_ [42]) ?_
 cases al:(text_==[42])
 ·refine .d<|.cf<|.sk<|.s<|.s<|.g<|.r 1<|RG.CL (D7 text_ [44] AB rfl (F:=all)) Z fun ah ai w Z=>?_
  have am:=Z.mf 0 (AZ text_ ([44].headD 0))
  refine .r 2<|.d<|.b 0<|T.Lp (([]:List Cnd),ag,(0:Nat),(0:Nat)) (fun (out,r_out,c_out,k)=>([(0,vT text_),(4,vS r_out out.length c_out),(16,.slice ah ((AZ text_ ([44].headD 0)).length) ai),(17,vI (((AZ text_ ([44].headD 0)).length):Int)),(18,vI (k:Int))],[(0,.own 0 r_out 114 c_out out)],[],(AZ text_ ([44].headD 0)).length - k,(k≤(AZ text_ ([44].headD 0)).length)∧(out.length≤k)∧(out++((AZ text_ ([44].headD 0)).drop k).map (fun t=>LR t.s)=Fp text_))) [] Z ⟨AD,AD,AF⟩ ?_
  rintro ⟨out,r_out,c_out,k⟩ aC w Z ⟨ao,aq,ar⟩ ac
  have ax:=Z.mo 0 out
  refine .s<|.g<|.bp ((k:Int)< (((AZ text_ ([44].headD 0)).length):Int)) (fun ae=>?_) (fun ae=>?_)
  ·exact .d<|.s<|.ct<|.sk<|.s<|.b 1<|.s<|.g<|gxb (AZ text_ ([44].headD 0)) k fun E ab ay af=>RG.Ix 0 ab Z<|Z.el 0 ab fun Z=>RG.Lh 0 0 Z<|.r 1<|.d<|.s<|.g<|.r 1<|RG.C0 (IY E.s [61] (by have q1:=(BO text_ 44).1 _ ‹_›; omega) rfl (F:=all)) Z fun w Z=>.r 7<|.d<|.s<|.g<|.r 1<|RG.Np Z fun aD w Z=>RG.Ss 0 Z fun w Z=>.d<|.s<|.g<|.r 1<|RG.C0 (IJ ((DL E.s ([61].headD 0)).1) [33] (Nat.le_trans (Ml _ 61).1 (by have q1:=(BO text_ 44).1 _ ‹_›; omega)) (F:=all)) Z fun w Z=>.r 5<|RG.Ss 0 Z fun w Z=>.d<|.s<|.g<|.r 4<|RG.Ss 0 Z fun w Z=>.d<|.g<|.r 1<|RG.Ln 0 Z<|RG.Nb 1 Z fun aE w Z=>RG.Ap (hs:=by exact (by have q1:=(BO text_ ([44].headD 0)).2; omega)) 1 0 out (⟨(⟨(EK ((DL E.s ([61].headD 0)).1) [33]).1,(DL E.s ([61].headD 0)).2.1⟩:Tag),(EK ((DL E.s ([61].headD 0)).1) [33]).2⟩:Cnd) [] Z fun aj ak w Z=>.r 1<|.d<|.ib 1<|.g<|.it ((k:Int)+1)<|.r 1<|.d<|ac ((out++[(⟨(⟨(EK ((DL E.s ([61].headD 0)).1) [33]).1,(DL E.s ([61].headD 0)).2.1⟩:Tag),(EK ((DL E.s ([61].headD 0)).1) [33]).2⟩:Cnd)]),aj,ak,k+1) _ _ AA (Z.to 1 [] 1) ⟨AB,(by (simp; omega)),(by exact TU ‹_› ‹_›)⟩ (by (simp only []; omega))
  refine .d<|.s<|.cf<|.x 0 rfl<|.s<|.s<|.g<|.r 1<|RG.eqv (v:=.bool ((text_==[]))) AA (Cv text_ []) ?_
  cases aA:(text_==[])
  ·refine .r 2<|RG.C0 (Jt out (Z.oa 0) (by have q1:out=Fp text_:=CW (by assumption:out++((AZ text_ ([44].headD 0)).drop k).map (fun t=>LR t.s)=Fp text_) AB; rw [q1]; exact XV p0)) Z fun w Z=>.r 1<|RG.eqv (v:=.bool (!(Kf out==text_))) AA (K3 (Kf out) text_) ?_
   cases aB:(Kf out==text_)
   ·exact .r 1<|.d<|.ct<|.s<|.g<|RG.N0 Cnd 0 Z fun aF w Z=>.r 2<|.d<|T.r2 func36 results36 (.T _) (.t (.bool false)) ⟨⟨_,(Bk rfl (AG (by (have q1:out=Fp text_:=CW (by assumption:out++((AZ text_ ([44].headD 0)).drop k).map (fun t=>LR t.s)=Fp text_) AB; subst q1; rw [Jn ‹_› (.inr ‹_›)])))),Z.rM 0 ([]:List Cnd) (by (have q1:out=Fp text_:=CW (by assumption:out++((AZ text_ ([44].headD 0)).drop k).map (fun t=>LR t.s)=Fp text_) AB; subst q1; rw [Jn ‹_› (.inr ‹_›)]))⟩,Z.xt⟩
   exact .r 1<|.d<|.cf<|.sk<|.s<|.g<|.r 3<|.d<|T.r2 func36 results36 (.T _) (.t (.bool true)) ⟨⟨_,(Bk rfl (AG (by (have q1:out=Fp text_:=CW (by assumption:out++((AZ text_ ([44].headD 0)).drop k).map (fun t=>LR t.s)=Fp text_) AB; subst q1; rw [N7 ‹_› ‹_› ‹_›])))),Z.rM 0 out (by (have q1:out=Fp text_:=CW (by assumption:out++((AZ text_ ([44].headD 0)).drop k).map (fun t=>LR t.s)=Fp text_) AB; subst q1; rw [N7 ‹_› ‹_› ‹_›]))⟩,Z.xt⟩
  exact .r 6<|.d<|.ct<|.s<|.g<|RG.N0 Cnd 0 Z fun aG w Z=>.r 2<|.d<|T.r2 func36 results36 (.T _) (.t (.bool false)) ⟨⟨_,(Bk rfl (AG (by (have q1:out=Fp text_:=CW (by assumption:out++((AZ text_ ([44].headD 0)).drop k).map (fun t=>LR t.s)=Fp text_) AB; subst q1; rw [Jn ‹_› (.inl ‹_›)])))),Z.rM 0 ([]:List Cnd) (by (have q1:out=Fp text_:=CW (by assumption:out++((AZ text_ ([44].headD 0)).drop k).map (fun t=>LR t.s)=Fp text_) AB; subst q1; rw [Jn ‹_› (.inl ‹_›)]))⟩,Z.xt⟩
 exact .d<|.ct<|.s<|.g<|.r 3<|.d<|T.r2 func36 results36 (.T _) (.t (.bool true)) ⟨⟨_,(Bk rfl (AG (by rw [Mm ‹_›]))),Z.rM 0 ([]:List Cnd) (by rw [Mm ‹_›])⟩,Z.xt⟩
theorem Ht (hits:List Hit) (h1:RepS w F a1 n1 c1 hits) (htab:RepS w F (some ⟨5,0,none⟩) CE.length CE.length CE) (p0:∀ h∈hits,HitD h) (p1:hits.length≤6):Calls Tryz.prog 20 [.slice a1 n1 c1].toArray w (Al fun rv w'=>rv=.string (bs (Cc hits))∧Ext w w'):=by
 cases h1.len
 refine goT func20 ?_
 have Z:=((St.i0 F w).p h1).p htab
 refine .s<|.g<|.r 1<|.d<|.s<|.g<|.r 1<|.d<|.s<|.s<|.g<|.r 3<|.d<|.b 0<|T.Lp ([],(0:Nat)) (fun (out,k)=>([(3,vT out),(8,.slice a1 hits.length c1),(9,vI (hits.length:Int)),(10,vI (k:Int))],[],[],hits.length - k,(k≤hits.length)∧(out.length≤901 * k)∧(out++Cc (hits.drop k)=Cc hits))) [] Z ⟨AB,AD,AF⟩ ?_
 rintro ⟨out,k⟩ aK w Z ⟨aB,aC,aD⟩ ag
 refine .s<|.g<|.bp ((k:Int)< (hits.length:Int)) (fun ak=>?_) (fun ak=>.d<|.s<|.cf<|.x 0 rfl<|.s<|.g<|.r 2<|.d<|T.rt func20 results20 (vT out) ⟨(congrArg (fun s=>Value.string (bs s)) (by exact Vh ‹_› AB)),Z.xt⟩)
 refine .d<|.s<|.ct<|.sk<|.s<|.b 1<|.s<|.g<|gxb hits k fun ab ae aE ar=>RG.Ix 1 ae Z<|Z.el 1 ae fun ay az Z=>?_
 have aF:=Z.mf 1 ab.rows
 refine RG.Lg 0 0 Z<|RG.Np Z fun aL w Z=>RG.Ss 0 Z fun w Z=>.d<|.s<|.g<|.r 2<|RG.Lb 0 Z<|RG.cat (t:=9) (s:=out) (u:=ab.name) AA (by have q1:=p0 _ (by assumption:_∈hits); have q2:=q1.n; omega)<|.r 1<|.d<|.s<|.s<|.g<|.r 1<|RG.Lb 0 Z<|.r 2<|.d<|.b 2<|T.Lp ((out++ab.name),(0:Nat)) (fun (aa,k1)=>([(3,vT aa),(8,.slice a1 hits.length c1),(9,vI (hits.length:Int)),(10,vI (k:Int)),(19,.slice ay ab.rows.length az),(20,vI (ab.rows.length:Int)),(21,vI (k1:Int))],[],[],ab.rows.length - k1,(k1≤ab.rows.length)∧(aa.length≤901 * k+100+8 * k1)∧(aa++GB (ab.rows.drop k1)=(out++ab.name)++GB ab.rows))) [] Z ⟨AB,(by have q1:=p0 _ (by assumption:_∈hits); simp only [List.length_append]; have q2:=q1.n; omega),AF⟩ ?_
 rintro ⟨aa,k1⟩ aM w Z ⟨aG,aH,aI⟩ ai
 refine .s<|.g<|.bp ((k1:Int)< (ab.rows.length:Int)) (fun aq=>?_) (fun aq=>.d<|.s<|.cf<|.x 2 rfl<|.g<|.r 1<|RG.cat (t:=9) (s:=aa) (u:=[10]) AA (by have q1:=p0 _ (by assumption:_∈hits); have q3:=q1.l; (simp only [List.length_append,List.length_cons,List.length_nil]; omega))<|.r 1<|.d<|.ib 1<|.g<|.it ((k:Int)+1)<|.r 1<|.d<|ag ((aa++[10]),k+1) _ _ AA (Z.to 1 [] 2) ⟨AB,(by have q1:=p0 _ (by assumption:_∈hits); have q2:=q1.l; simp only [List.length_append,List.length_cons,List.length_nil]; omega),(by exact SQ ‹_› ‹_› (Vg ‹_› AB) rfl)⟩ (by (simp only []; omega)))
 exact .d<|.s<|.ct<|.sk<|.s<|.b 3<|.s<|.g<|gxb ab.rows k1 fun E af aJ ax=>RG.Ix 1 af Z<|Z.el 1 af fun Z=>RG.Lg 0 0 Z<|RG.Np Z fun aN w Z=>RG.Ss 0 Z fun w Z=>.d<|T.Gd 10 Z fun w Z=>.r [0,1]<|GA.Lb 2 0 Z<|GA.C0 3 Z (fun w Z=>Fu E.t (Z.a 3) (by have q1:=p0 _ (by assumption:_∈hits); have q2:=q1.r _ ‹_›; omega))<|GA.cat (i:=4) (t:=9) (s:=[32]) (u:=BF E.t) AA AA (by have q1:=p0 _ (by assumption:_∈hits); (simp only [List.length_append,List.length_cons,List.length_nil]; (have q4:=Au E.t; omega)))<|GA.cat (i:=5) (t:=9) (s:=([32]++(BF E.t))) (u:=[58]) AA AA (by have q1:=p0 _ (by assumption:_∈hits); (simp only [List.length_append,List.length_cons,List.length_nil]; (have q4:=Au E.t; omega)))<|.r [6]<|GA.Lb 7 0 Z<|GA.C0 8 Z (fun w Z=>Fu E.v (Z.a 3) (by have q1:=p0 _ (by assumption:_∈hits); have q2:=q1.r _ ‹_›; omega))<|GA.cat (i:=9) (t:=9) (s:=(([32]++(BF E.t))++[58])) (u:=BF E.v) AA AA (by have q1:=p0 _ (by assumption:_∈hits); (simp only [List.length_append,List.length_cons,List.length_nil]; (have q4:=Au E.t; have q5:=Au E.v; omega)))<|GA.Dn Z fun w Z=>RG.cat (t:=9) (s:=aa) (u:=((([32]++(BF E.t))++[58])++(BF E.v))) AA (by have q1:=p0 _ (by assumption:_∈hits); have q3:=q1.l; (simp only [List.length_append,List.length_cons,List.length_nil]; (have q4:=Au E.t; have q5:=Au E.v; omega)))<|.r 1<|.d<|.ib 3<|.g<|.it ((k1:Int)+1)<|.r 1<|.d<|ai ((aa++((([32]++(BF E.t))++[58])++(BF E.v))),k1+1) _ _ AA (Z.to 1 [] 1) ⟨AB,(by have q2:=Mn E; simp only [QG,List.length_append,List.length_cons,List.length_nil] at q2 ⊢; omega),(by exact SP ‹_› ‹_› (by simp [QG]))⟩ (by (simp only []; omega))
theorem Hu (words:List Txt) (k:Int) (h1:RepS w F a1 n1 c1 words) (p0:0≤k):Calls Tryz.prog 48 [.slice a1 n1 c1,.int .i64 k].toArray w (Al fun rv w'=>rv=.string (bs (Bh words ((k:Int).toNat)))∧Ext w w'):=by
 cases h1.len
 refine goT func48 ?_
 have Z:=(St.i0 F w).p h1
 have ae:=h1.max
 refine .s<|.g<|.r 1<|.d<|.s<|.s<|.g<|.r 3<|.bp (k< (words.length:Int)) (fun aa=>?_) (fun aa=>.d<|.cf<|.sk<|.s<|.g<|.r 1<|.d<|T.rt func48 results48 (.string (bs [])) ⟨(congrArg (fun s=>Value.string (bs s)) (by rw [P4 AB])),Z.xt⟩)
 exact .d<|.ct<|.s<|.g<|.r 2<|gx words (k.toNat) fun ac E=>RG.Jx 0 k E Z<|Z.el 0 E fun Z=>RG.Lh 0 0 Z<|.r 1<|.d<|T.rt func48 results48 (vT ac.s) ⟨(congrArg (fun s=>Value.string (bs s)) (by rw [Mg ‹_›])),Z.xt⟩
end Go.Proofs.YtckdhcbbgmiccaaGreatDoor
namespace Go.Proofs.YtckdhcbbgmiccaaGreatDoor
set_option maxRecDepth 100000
set_option maxHeartbeats 4000000
variable {w:World} {F:Nat→Prop}
theorem NI (n:Int){F:Nat→Prop}  (p0:∀ (m:Int){w:World}{F:Nat→Prop},l6m m< l6m n → -99≤m∧m≤99→Calls Tryz.prog 27 [.int .i64 m].toArray w (Al fun rv w'=>rv=.string (bs (BF m))∧Ext w w')) (p1:-99≤n∧n≤99):Calls Tryz.prog 27 [.int .i64 n].toArray w (Al fun rv w'=>rv=.string (bs (BF n))∧Ext w w'):=by
 refine goT func27 ?_
 have Z:=St.i0 F w
 refine .s<|.g<|.r 1<|.d<|.s<|.s<|.g<|.r 1<|.bp (n< (-9223372036854775807)) (fun ac=>.d<|.ct<|.s<|.g<|.r 1<|.d<|T.rt func27 results27 (.string (bs [45,57,50,50,51,51,55,50,48,51,54,56,53,52,55,55,53,56,48,56])) ⟨(congrArg (fun s=>Value.string (bs s)) (by (exfalso; omega))),Z.xt⟩) fun ac=>.d<|.cf<|.sk<|.s<|.s<|.g<|.r 1<|.bp (n< 0) (fun ae=>.d<|.ct<|.s<|.g<|.r 1<|RG.int (0 - n) AA AB<|RG.C0 (p0 (0 - n) (by exact oA ‹_›) AB (F:=all)) Z fun w Z=>RG.cat (t:=9) (s:=[45]) (u:=BF (0 - n)) AA (by have q1:=Au (0 - n); simp only [List.length_append,List.length_cons,List.length_nil]; omega)<|.r 1<|.d<|T.rt func27 results27 (.string (bs ([45]++(BF (0 - n))))) ⟨(congrArg (fun s=>Value.string (bs s)) (by exact Y7 ‹_›)),Z.xt⟩) fun ae=>.d<|.cf<|.sk<|.s<|.s<|.g<|.r 1<|.bp (n< 10) (fun af=>?_) (fun af=>?_)
 ·refine .d<|.ct<|.s<|.g<|.r 1<|RG.int (48+n) AA AB ?_
  obtain ⟨aa,ag⟩:∃ y:UInt8,(y.toNat:Int)=48+n:=R8 AB
  exact RG.eqv (v:=.int .u8 (aa.toNat:Int)) (v':=.int .u8 (IntKind.u8.wrap (48+n))) AA (Nu ag)<|RG.Nl 0 ([aa]:List UInt8) [] Z fun aj w Z=>RG.b2s (s:=22) (d:=9) (y:=aa) (Z.ow 0 ([aa]:List UInt8) AA).1 AA AA<|.r 1<|.d<|T.rt func27 results27 (.string (bs [aa])) ⟨(congrArg (fun s=>Value.string (bs s)) (by exact Y8 ‹_› ‹_› ‹_›)),Z.xt⟩
 refine .d<|.cf<|.sk<|.s<|T.Gd 9 Z fun w Z=>.r [0]<|GA.quo (i:=1) (t:=3) (a:=n) (b:=10) AA AA AB (by have q1:=N3 (n:=n) AB; omega)<|GA.C0 2 Z (fun w Z=>p0 (Int.tdiv n 10) (by exact oB ‹_› ‹_›) (by (have q1:=N3 (n:=n) AB; omega)) (F:=all))<|.r [3,4]<|GA.int (i:=5) (48+(Int.tmod n 10)) AA (by (have q1:=N3 (n:=n) AB; omega)) ?_
 obtain ⟨E,ah⟩:∃ y:UInt8,(y.toNat:Int)=48+(Int.tmod n 10):=R8 (by (have q1:=N3 (n:=n) AB; omega))
 exact GA.eqv (i:=6) (v:=.int .u8 (E.toNat:Int)) (v':=.int .u8 (IntKind.u8.wrap (48+(Int.tmod n 10)))) AA (Nu ah)<|.go 7<|GE.Nl 0 ([E]:List UInt8) [] Z fun ak w Z=>GA.b2s (i:=8) (s:=22) (d:=9) (y:=E) AA (Z.ow 0 ([E]:List UInt8) AA).1 AA AA<|GA.Dn Z fun w Z=>RG.cat (t:=9) (s:=BF (Int.tdiv n 10)) (u:=[E]) AA (by have q1:=Au (0 - n); have q2:=Au (Int.tdiv n 10); simp only [List.length_append,List.length_cons,List.length_nil]; omega)<|.r 1<|.d<|T.rt func27 results27 (.string (bs ((BF (Int.tdiv n 10))++[E]))) ⟨(congrArg (fun s=>Value.string (bs s)) (by exact Y9 ‹_› ‹_› ‹_› p1)),Z.xt⟩
theorem Bu (n:Int){F:Nat→Prop}(p0:-99≤n∧n≤99):Calls Tryz.prog 27 [.int .i64 n].toArray w (Al fun rv w'=>rv=.string (bs (BF n))∧Ext w w'):=by
 have key:∀ (k:Nat) (n:Int) {w:World} {F:Nat→Prop},l6m n< k → -99≤n∧n≤99→Calls Tryz.prog 27 [vI n].toArray w (Al fun rv w'=>rv=.string (bs (BF n))∧Ext w w'):=by
  intro k
  induction k with
  | zero=>intro n w F h _; omega
  | succ k ih=>intro n w F h hp; exact NI n (F:=F) (fun m w F hm hq=>ih m (F:=F) AB hq) hp
 exact key (l6m n+1) n (F:=F) AB p0
end Go.Proofs.YtckdhcbbgmiccaaGreatDoor
namespace Go.Proofs.YtckdhcbbgmiccaaGreatDoor
set_option maxRecDepth 100000
set_option maxHeartbeats 4000000
variable {w:World} {F:Nat→Prop} {a1:Option Addr} {n1 c1:Nat}
theorem Hv (list:List Hit) (h1:RepS w F a1 n1 c1 list) (p0:∀ h∈list,HitD h) (p1:list.length≤6):Calls Tryz.prog 25 [.slice a1 n1 c1].toArray w (Al fun rv w'=>rv=.string (bs (Cc list))∧Ext w w'):=by
 cases h1.len
 refine goT func25 ?_
 have Z:=(St.i0 F w).p h1
 refine .s<|.g<|.r 1<|.d<|.s<|.g<|.r 1<|.d<|.s<|.s<|.g<|.r 1<|.d<|.b 0<|T.Lp ([],(0:Nat)) (fun (out,i)=>([(0,.slice a1 list.length c1),(3,vT out),(4,vI (i:Int))],[],[],list.length - i,(i≤list.length)∧(out.length≤901 * i)∧(out++Cc (list.drop i)=Cc list))) [] Z ⟨AB,AD,AF⟩ ?_
 rintro ⟨out,i⟩ aH w Z ⟨ay,az,aA⟩ ag
 refine .s<|.s<|.g<|.r 3<|.bp ((i:Int)< (list.length:Int)) (fun aj=>?_) (fun aj=>.d<|.cf<|.x 0 rfl<|.s<|.g<|.r 2<|.d<|T.rt func25 results25 (vT out) ⟨(congrArg (fun s=>Value.string (bs s)) (by exact Vh ‹_› AB)),Z.xt⟩)
 refine .d<|.ct<|.sk<|.s<|.b 1<|.s<|.g<|.r 3<|gxb list i fun ae ac aB aq=>RG.Ix 0 ac Z<|.r 1<|Z.el 0 ac fun aI aJ Z=>?_
 have aC:=Z.mf 1 ae.rows
 refine RG.Lh 0 0 Z<|RG.cat (t:=9) (s:=out) (u:=ae.name) AA (by have q1:=p0 _ (by assumption:_∈list); have q2:=q1.n; omega)<|.r 1<|.d<|.s<|.s<|.g<|.r 1<|.d<|.b 2<|T.Lp ((out++ae.name),(0:Nat)) (fun (E,k)=>([(0,.slice a1 list.length c1),(3,vT E),(4,vI (i:Int)),(5,vI (k:Int))],[],[],ae.rows.length - k,(k≤ae.rows.length)∧(E.length≤901 * i+100+8 * k)∧(E++GB (ae.rows.drop k)=(out++ae.name)++GB ae.rows))) [] Z ⟨AB,(by have q1:=p0 _ (by assumption:_∈list); simp only [List.length_append]; have q2:=q1.n; omega),AF⟩ ?_
 rintro ⟨E,k⟩ aK w Z ⟨aD,aE,aF⟩ ai
 refine .s<|.s<|.g<|.r 3<|RG.Ix 2 ac Z<|.r 1<|RG.Lh 0 1 Z<|.r 1<|.bp ((k:Int)< (ae.rows.length:Int)) (fun ao=>?_) (fun ao=>.d<|.cf<|.x 2 rfl<|.g<|.r 1<|RG.cat (t:=9) (s:=E) (u:=[10]) AA (by have q1:=p0 _ (by assumption:_∈list); have q3:=q1.l; (simp only [List.length_append,List.length_cons,List.length_nil]; omega))<|.r 1<|.d<|.ib 1<|.g<|.r 1<|.it ((i:Int)+1)<|.r 1<|.d<|ag ((E++[10]),i+1) _ _ AA (Z.to 0 [] 2) ⟨AB,(by have q1:=p0 _ (by assumption:_∈list); have q2:=q1.l; simp only [List.length_append,List.length_cons,List.length_nil]; omega),(by exact SQ ‹_› ‹_› (Vg ‹_› AB) rfl)⟩ (by (simp only []; omega)))
 exact .d<|.ct<|.sk<|.s<|.b 3<|T.Gd 24 Z fun w Z=>.r [0]<|GA.cat (i:=1) (t:=9) (s:=E) (u:=[32]) AA AA (by have q1:=p0 _ (by assumption:_∈list); have q3:=q1.l; (simp only [List.length_append,List.length_cons,List.length_nil]; omega))<|.r [2,3]<|GA.Ix 4 2 ac Z<|.r [5]<|GA.Lh 6 0 1 Z<|.r [7]<|gxb ae.rows k fun aa af aG ar=>GA.Ix 8 1 af Z<|.r [9]<|Z.el 1 af fun Z=>GA.Lh 10 0 0 Z<|GA.C0 11 Z (fun w Z=>Bu aa.t (by have q1:=p0 _ (by assumption:_∈list); have q2:=q1.r _ ‹_›; omega) (F:=all))<|GA.cat (i:=12) (t:=9) (s:=(E++[32])) (u:=BF aa.t) AA AA (by have q1:=p0 _ (by assumption:_∈list); have q3:=q1.l; (simp only [List.length_append,List.length_cons,List.length_nil]; (have q4:=Au aa.t; omega)))<|GA.cat (i:=13) (t:=9) (s:=((E++[32])++(BF aa.t))) (u:=[58]) AA AA (by have q1:=p0 _ (by assumption:_∈list); have q3:=q1.l; (simp only [List.length_append,List.length_cons,List.length_nil]; (have q4:=Au aa.t; omega)))<|.r [14,15]<|GA.Ix 16 3 ac Z<|.r [17]<|GA.Lh 18 1 1 Z<|.r [19]<|GA.Ix 20 2 af Z<|.r [21]<|GA.Lh 22 0 1 Z<|GA.C0 23 Z (fun w Z=>Bu aa.v (by have q1:=p0 _ (by assumption:_∈list); have q2:=q1.r _ ‹_›; omega) (F:=all))<|GA.Dn Z fun w Z=>RG.cat (t:=9) (s:=(((E++[32])++(BF aa.t))++[58])) (u:=BF aa.v) AA (by have q1:=p0 _ (by assumption:_∈list); have q3:=q1.l; (simp only [List.length_append,List.length_cons,List.length_nil]; (have q4:=Au aa.t; have q5:=Au aa.v; omega)))<|.r 1<|.d<|.ib 3<|.g<|.r 1<|.it ((k:Int)+1)<|.r 1<|.d<|ai (((((E++[32])++(BF aa.t))++[58])++(BF aa.v)),k+1) _ _ AA (Z.to 0 [] 1) ⟨AB,(by have q2:=Mn aa; simp only [QG,List.length_append,List.length_cons,List.length_nil] at q2 ⊢; omega),(by exact SP ‹_› ‹_› (by simp [QG]))⟩ (by (simp only []; omega))
theorem Ez (words:List Txt) (k:Int) (h1:RepS w F a1 n1 c1 words) (p0:0≤k) (p1:∀ t∈words,t.s.length≤1000):Calls Tryz.prog 46 [.slice a1 n1 c1,.int .i64 k].toArray w (Al fun rv w'=>rv=.int .i64 (Az words ((k:Int).toNat))∧Ext w w'):=by
 cases h1.len
 refine goT func46 ?_
 have Z:=(St.i0 F w).p h1
 have aL:=h1.max
 refine .s<|.g<|.r 1<|.d<|.s<|.s<|.g<|.r 3<|.bp (k≥(words.length:Int)) (fun ax=>.d<|.ct<|.s<|.g<|.r 1<|.d<|T.rt func46 results46 (vI (-999)) ⟨(congrArg (Value.int .i64) (by rw [XP AB])),Z.xt⟩) fun ax=>.d<|.cf<|.sk<|.s<|.g<|.r 2<|gx words (k.toNat) fun E ae=>RG.Jx 0 k ae Z<|Z.el 0 ae fun Z=>RG.Lh 0 0 Z<|.r 1<|.d<|.s<|.g<|.r 1<|.d<|.s<|.s<|.g<|.r 1<|RG.eqv (v:=vI (E.s.length:Int)) AA (CA E.s)<|.bp ((E.s.length:Int) > 1) (fun ay=>?_) (fun ay=>?_)
 ·refine .r 2 ?_
  obtain ⟨az,am⟩:∃ y,E.s[0]? = some y:=⟨_,AU AB⟩
  refine RG.GX (t:=9) (s:=E.s) (k:=.i64) (i:=0) 0 AA AA AB am<|.eq (az.toNat:Int) 45 (fun aA=>?_) (fun aA=>?_)
  ·refine .r 1<|.d<|.ct<|.s<|.g<|.r 1<|.d<|.g<|.r 1<|RG.IF (t:=9) (lo:=some (vI 1)) (hi:=none) (s:=E.s) 1 E.s.length AA AA (.inr ⟨_,_,rfl,by omega⟩) (.inl ⟨rfl,rfl⟩) AB AB<|.r 1<|.d<|.s<|.g<|.r 1<|.d<|.s<|.s<|.g<|.r 1<|RG.eqv (v:=vI (((E.s.take E.s.length).drop 1).length:Int)) AA (CA ((E.s.take E.s.length).drop 1))<|RG.C0 (CP (((E.s.take E.s.length).drop 1).length:Int) 1 2 (F:=all)) Z fun w Z=>?_
   cases ao:(inR (((E.s.take E.s.length).drop 1).length:Int) 1 2)
   ·exact .r 1<|.d<|.ct<|.s<|.g<|.r 1<|.d<|T.rt func46 results46 (vI (-999)) ⟨(congrArg (Value.int .i64) (by rw [Dl ‹_›,(O1 ‹_› ‹_› ‹_›),(Jl ‹_›)])),Z.xt⟩
   have aQ:=Bd ao
   refine .r 1<|.d<|.cf<|.sk<|.s<|.s<|.g<|.r 1<|.d<|.b 0<|T.Lp ((0:Int),(0:Nat)) (fun (n,i)=>([(5,.string (bs ((E.s.take E.s.length).drop 1))),(6,vI (-1)),(7,vI n),(8,vI (i:Int))],[],[],(((E.s.take E.s.length).drop 1)).length - i,(i≤(((E.s.take E.s.length).drop 1)).length)∧(0≤n)∧(Lib.decFrom n.toNat ((((E.s.take E.s.length).drop 1)).drop i)=Lib.decFrom 0 (((E.s.take E.s.length).drop 1)))∧(n≤99)∧(i≤1→n≤9)∧(i=0→n=0))) [] Z ⟨AB,AB,AF,AB,AB,AB⟩ ?_
   rintro ⟨n,i⟩ bD w Z ⟨aR,aS,aT,aU,aV,aW⟩ aj
   refine .s<|.s<|.g<|.r 2<|RG.eqv (v:=vI (((E.s.take E.s.length).drop 1).length:Int)) AA (CA ((E.s.take E.s.length).drop 1))<|.bp ((i:Int)< (((E.s.take E.s.length).drop 1).length:Int)) (fun aB=>?_) (fun aB=>.d<|.cf<|.x 0 rfl<|.s<|.g<|.r 2<|RG.int ((-1) * n) AA AB<|.r 1<|.d<|T.rt func46 results46 (vI ((-1) * n)) ⟨(congrArg (Value.int .i64) (by rw [Dl ‹_›,(O1 ‹_› ‹_› ‹_›),(Ki ‹_› ‹_› (RA ‹_› AB))])),Z.xt⟩)
   refine .d<|.ct<|.sk<|.s<|.b 1<|.s<|.s<|.g<|.r 2 ?_
   obtain ⟨aa,ag⟩:∃ y,((E.s.take E.s.length).drop 1)[i]? = some y:=⟨_,AU AB⟩
   have aX:=UInt8.toNat_lt aa; have aY:=drop_at ag
   exact RG.GX (t:=9) (s:=((E.s.take E.s.length).drop 1)) (k:=.i64) (i:=(i:Int)) i AA AA AB ag<|.bp ((aa.toNat:Int)< 48) (fun aC=>.r 6<|.d<|.ct<|.s<|.g<|.r 1<|.d<|T.rt func46 results46 (vI (-999)) ⟨(congrArg (Value.int .i64) (by rw [Dl ‹_›,(O1 ‹_› ‹_› ‹_›),(Fk ‹_› (N2 ‹_› ‹_› (.inl ‹_›)))])),Z.xt⟩) fun aC=>.r 3<|RG.GX (t:=9) (s:=((E.s.take E.s.length).drop 1)) (k:=.i64) (i:=(i:Int)) i AA AA AB ag<|.bp ((aa.toNat:Int) > 57) (fun aD=>.r 1<|.d<|.ct<|.s<|.g<|.r 1<|.d<|T.rt func46 results46 (vI (-999)) ⟨(congrArg (Value.int .i64) (by rw [Dl ‹_›,(O1 ‹_› ‹_› ‹_›),(Fk ‹_› (N2 ‹_› ‹_› (.inr ‹_›)))])),Z.xt⟩) fun aD=>.r 1<|.d<|.cf<|.sk<|.g<|.r 1<|RG.int (10 * n) AA AB<|.r 2<|RG.GX (t:=9) (s:=((E.s.take E.s.length).drop 1)) (k:=.i64) (i:=(i:Int)) i AA AA AB ag<|RG.eqv (v:=.int .u8 ((aa.toNat:Int) - 48)) (v':=.int .u8 (IntKind.u8.wrap ((aa.toNat:Int) - 48))) AA (u8_in AB)<|.it ((aa.toNat:Int) - 48)<|RG.int (10 * n+((aa.toNat:Int) - 48)) AA AB<|.r 1<|.d<|.ib 1<|.g<|.r 1<|RG.int ((i:Int)+1) AA AB<|.r 1<|.d<|aj (10 * n+((aa.toNat:Int) - 48),i+1) _ _ AA (Z.to 0 [] 0) ⟨AB,AB,(by exact Mt ‹_› ‹_› ‹_› ‹_› ‹_›),(by have q1:=Bd (by assumption:inR _ 1 2=true); omega),AB,AB⟩ (by (simp only []; omega))
  refine .r 1<|.d<|.cf<|.sk<|.s<|.g<|.r 1<|.d<|.s<|.s<|.g<|.r 1<|RG.eqv (v:=vI (E.s.length:Int)) AA (CA E.s)<|RG.C0 (CP (E.s.length:Int) 1 2 (F:=all)) Z fun w Z=>?_
  cases aq:(inR (E.s.length:Int) 1 2)
  ·exact .r 1<|.d<|.ct<|.s<|.g<|.r 1<|.d<|T.rt func46 results46 (vI (-999)) ⟨(congrArg (Value.int .i64) (by rw [Dl ‹_›,(Hn (.inr ⟨_,by assumption,by assumption⟩)),(Jl ‹_›)])),Z.xt⟩
  have ba:=Bd aq
  refine .r 1<|.d<|.cf<|.sk<|.s<|.s<|.g<|.r 1<|.d<|.b 0<|T.Lp ((0:Int),(0:Nat)) (fun (n,i)=>([(5,vT E.s),(6,vI 1),(7,vI n),(8,vI (i:Int))],[],[],E.s.length - i,(i≤E.s.length)∧(0≤n)∧(Lib.decFrom n.toNat (E.s.drop i)=Lib.decFrom 0 (E.s))∧(n≤99)∧(i≤1→n≤9)∧(i=0→n=0))) [] Z ⟨AB,AB,AF,AB,AB,AB⟩ ?_
  rintro ⟨n,i⟩ bE w Z ⟨bd,bg,bh,bi,bj,bk⟩ ak
  refine .s<|.s<|.g<|.r 2<|RG.eqv (v:=vI (E.s.length:Int)) AA (CA E.s)<|.bp ((i:Int)< (E.s.length:Int)) (fun aE=>?_) (fun aE=>.d<|.cf<|.x 0 rfl<|.s<|.g<|.r 2<|RG.int (1 * n) AA AB<|.r 1<|.d<|T.rt func46 results46 (vI (1 * n)) ⟨(congrArg (Value.int .i64) (by rw [Dl ‹_›,(Hn (.inr ⟨_,by assumption,by assumption⟩)),(Ki ‹_› ‹_› (RA ‹_› AB))])),Z.xt⟩)
  refine .d<|.ct<|.sk<|.s<|.b 1<|.s<|.s<|.g<|.r 2 ?_
  obtain ⟨ab,ah⟩:∃ y,E.s[i]? = some y:=⟨_,AU AB⟩
  have bm:=UInt8.toNat_lt ab; have bn:=drop_at ah
  exact RG.GX (t:=9) (s:=E.s) (k:=.i64) (i:=(i:Int)) i AA AA AB ah<|.bp ((ab.toNat:Int)< 48) (fun aF=>.r 6<|.d<|.ct<|.s<|.g<|.r 1<|.d<|T.rt func46 results46 (vI (-999)) ⟨(congrArg (Value.int .i64) (by rw [Dl ‹_›,(Hn (.inr ⟨_,by assumption,by assumption⟩)),(Fk ‹_› (N2 ‹_› ‹_› (.inl ‹_›)))])),Z.xt⟩) fun aF=>.r 3<|RG.GX (t:=9) (s:=E.s) (k:=.i64) (i:=(i:Int)) i AA AA AB ah<|.bp ((ab.toNat:Int) > 57) (fun aG=>.r 1<|.d<|.ct<|.s<|.g<|.r 1<|.d<|T.rt func46 results46 (vI (-999)) ⟨(congrArg (Value.int .i64) (by rw [Dl ‹_›,(Hn (.inr ⟨_,by assumption,by assumption⟩)),(Fk ‹_› (N2 ‹_› ‹_› (.inr ‹_›)))])),Z.xt⟩) fun aG=>.r 1<|.d<|.cf<|.sk<|.g<|.r 1<|RG.int (10 * n) AA AB<|.r 2<|RG.GX (t:=9) (s:=E.s) (k:=.i64) (i:=(i:Int)) i AA AA AB ah<|RG.eqv (v:=.int .u8 ((ab.toNat:Int) - 48)) (v':=.int .u8 (IntKind.u8.wrap ((ab.toNat:Int) - 48))) AA (u8_in AB)<|.it ((ab.toNat:Int) - 48)<|RG.int (10 * n+((ab.toNat:Int) - 48)) AA AB<|.r 1<|.d<|.ib 1<|.g<|.r 1<|RG.int ((i:Int)+1) AA AB<|.r 1<|.d<|ak (10 * n+((ab.toNat:Int) - 48),i+1) _ _ AA (Z.to 0 [] 0) ⟨AB,AB,(by exact Mt ‹_› ‹_› ‹_› ‹_› ‹_›),(by have q1:=Bd (by assumption:inR _ 1 2=true); omega),AB,AB⟩ (by (simp only []; omega))
 refine .r 5<|.d<|.cf<|.sk<|.s<|.g<|.r 1<|.d<|.s<|.s<|.g<|.r 1<|RG.eqv (v:=vI (E.s.length:Int)) AA (CA E.s)<|RG.C0 (CP (E.s.length:Int) 1 2 (F:=all)) Z fun w Z=>?_
 cases ar:(inR (E.s.length:Int) 1 2)
 ·exact .r 1<|.d<|.ct<|.s<|.g<|.r 1<|.d<|T.rt func46 results46 (vI (-999)) ⟨(congrArg (Value.int .i64) (by rw [Dl ‹_›,(Hn (.inl ‹_›)),(Jl ‹_›)])),Z.xt⟩
 have bq:=Bd ar
 refine .r 1<|.d<|.cf<|.sk<|.s<|.s<|.g<|.r 1<|.d<|.b 0<|T.Lp ((0:Int),(0:Nat)) (fun (n,i)=>([(5,vT E.s),(6,vI 1),(7,vI n),(8,vI (i:Int))],[],[],E.s.length - i,(i≤E.s.length)∧(0≤n)∧(Lib.decFrom n.toNat (E.s.drop i)=Lib.decFrom 0 (E.s))∧(n≤99)∧(i≤1→n≤9)∧(i=0→n=0))) [] Z ⟨AB,AB,AF,AB,AB,AB⟩ ?_
 rintro ⟨n,i⟩ bF w Z ⟨br,bu,bv,bw,bz,bA⟩ al
 refine .s<|.s<|.g<|.r 2<|RG.eqv (v:=vI (E.s.length:Int)) AA (CA E.s)<|.bp ((i:Int)< (E.s.length:Int)) (fun aH=>?_) (fun aH=>.d<|.cf<|.x 0 rfl<|.s<|.g<|.r 2<|RG.int (1 * n) AA AB<|.r 1<|.d<|T.rt func46 results46 (vI (1 * n)) ⟨(congrArg (Value.int .i64) (by rw [Dl ‹_›,(Hn (.inl ‹_›)),(Ki ‹_› ‹_› (RA ‹_› AB))])),Z.xt⟩)
 refine .d<|.ct<|.sk<|.s<|.b 1<|.s<|.s<|.g<|.r 2 ?_
 obtain ⟨ac,ai⟩:∃ y,E.s[i]? = some y:=⟨_,AU AB⟩
 have bB:=UInt8.toNat_lt ac; have bC:=drop_at ai
 exact RG.GX (t:=9) (s:=E.s) (k:=.i64) (i:=(i:Int)) i AA AA AB ai<|.bp ((ac.toNat:Int)< 48) (fun aI=>.r 6<|.d<|.ct<|.s<|.g<|.r 1<|.d<|T.rt func46 results46 (vI (-999)) ⟨(congrArg (Value.int .i64) (by rw [Dl ‹_›,(Hn (.inl ‹_›)),(Fk ‹_› (N2 ‹_› ‹_› (.inl ‹_›)))])),Z.xt⟩) fun aI=>.r 3<|RG.GX (t:=9) (s:=E.s) (k:=.i64) (i:=(i:Int)) i AA AA AB ai<|.bp ((ac.toNat:Int) > 57) (fun aJ=>.r 1<|.d<|.ct<|.s<|.g<|.r 1<|.d<|T.rt func46 results46 (vI (-999)) ⟨(congrArg (Value.int .i64) (by rw [Dl ‹_›,(Hn (.inl ‹_›)),(Fk ‹_› (N2 ‹_› ‹_› (.inr ‹_›)))])),Z.xt⟩) fun aJ=>.r 1<|.d<|.cf<|.sk<|.g<|.r 1<|RG.int (10 * n) AA AB<|.r 2<|RG.GX (t:=9) (s:=E.s) (k:=.i64) (i:=(i:Int)) i AA AA AB ai<|RG.eqv (v:=.int .u8 ((ac.toNat:Int) - 48)) (v':=.int .u8 (IntKind.u8.wrap ((ac.toNat:Int) - 48))) AA (u8_in AB)<|.it ((ac.toNat:Int) - 48)<|RG.int (10 * n+((ac.toNat:Int) - 48)) AA AB<|.r 1<|.d<|.ib 1<|.g<|.r 1<|RG.int ((i:Int)+1) AA AB<|.r 1<|.d<|al (10 * n+((ac.toNat:Int) - 48),i+1) _ _ AA (Z.to 0 [] 0) ⟨AB,AB,(by exact Mt ‹_› ‹_› ‹_› ‹_› ‹_›),(by have q1:=Bd (by assumption:inR _ 1 2=true); omega),AB,AB⟩ (by (simp only []; omega))
end Go.Proofs.YtckdhcbbgmiccaaGreatDoor
