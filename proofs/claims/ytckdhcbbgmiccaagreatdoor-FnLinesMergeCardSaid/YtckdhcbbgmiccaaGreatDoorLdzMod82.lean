/- The laws on lines: plain laws. -/
import Derived.Test.YtckdhcbbgmiccaaGreatDoorLdzMod80
import Derived.Test.YtckdhcbbgmiccaaGreatDoorLdzMod71
set_option linter.unusedVariables false
set_option linter.unusedSimpArgs false
namespace Go.Proofs.YtckdhcbbgmiccaaGreatDoor
def C8 (ls:List Str):Str:=ls.flatMap (fun l=>l++[10])
def LnO (l:Str):Prop:=(10:UInt8)∉l∧LnD l
def LsO (t:Str):Prop:=∃ ls:List Str,t=C8 ls∧∀ l∈ls,LnO l
theorem Mp {c:UInt8}:∀ {l r:Str},c∉l→Iu c (l++c::r)=l::Iu c r:=by
 intro l
 induction l with
 | nil=>intro r _; simp [Iu]
 | cons x xs ih =>
   intro r h
   have hx:x≠c:=fun e=>h (by simp [e])
   rw [List.cons_append]
   conv=>lhs; unfold Iu
   rw [if_neg hx,ih (fun hm=>h (by simp [hm]))]
theorem TX:∀ (ls:List Str),(∀ l∈ls,(10:UInt8)∉l)→Iu 10 (C8 ls)=ls++[[]]:=by
 intro ls
 induction ls with
 | nil=>intro _; rfl
 | cons l ls ih =>
   intro h
   have e:C8 (l::ls)=l++10::C8 ls:=by simp [C8]
   rw [e,Mp (h l AD),ih (fun x hx=>h x (by simp [hx]))]
   rfl
theorem Mq {ls:List Str}(h:∀ l∈ls,(10:UInt8)∉l):DT (C8 ls)=ls.map Txt.mk:=by
 unfold DT
 rw [Oo,TX ls h]
 simp
theorem LsO.lns {t:Str}(h:LsO t):GO t:=by
 obtain ⟨ls,rfl,h⟩:=h
 intro l hl
 rw [Mq (fun x hx=>(h x hx).1)] at hl
 obtain ⟨x,hx,rfl⟩:=List.mem_map.1 hl
 exact (h x hx).2
theorem Mr (a b:List Str):C8 (a++b)=C8 a++C8 b:=by simp [C8]
theorem LsO.nil:LsO []:=⟨[],rfl,by simp⟩
theorem LsO.app {t u:Str}(h:LsO t) (h2:LsO u):LsO (t++u):=by
 obtain ⟨a,rfl,ha⟩:=h
 obtain ⟨b,rfl,hb⟩:=h2
 refine ⟨a++b,(Mr a b).symm,fun l hl=>?_⟩
 rcases List.mem_append.1 hl with hl | hl
 ·exact ha l hl
 ·exact hb l hl
theorem LsO.one {l:Str}(h:LnO l):LsO (l++[10]):=⟨[l],by simp [C8],by simpa using h⟩
theorem LsO.snoc {t l:Str}(h:LsO t) (h2:LnO l):LsO ((t++l)++[10]):=by
 rw [List.append_assoc]
 exact h.app (LsO.one h2)
theorem QL {w:Wld}(h:WV w){ws:List Txt}(hl:Bh ws 1∈WL):WV (Fq w ws).1:=by
 have h1:WV (doW w (evA ws)):=h.do (e:=evA ws) (RE _ hl)
 have h2:WV (doW w (evF ws)):=h.do (e:=evF ws) NmD.nil
 have h3:WV (doW w (evM ws)):=h.do (e:=evM ws) NmD.nil
 have h4:WV (doW w ⟨4,0,0,[],⟨0,0⟩⟩):=h.do (e:=⟨4,0,0,[],⟨0,0⟩⟩) NmD.nil
 unfold Fq
 split
 ·split
  ·exact h1
  ·exact h
 ·split
  ·exact h2
  ·split
   ·exact h3
   ·split
    ·exact h4
    ·split
     ·split
      ·exact h
      ·exact h
     ·split
      ·exact h
      ·exact h
theorem Oy {t:Str}(h:(t.length:Int) > 600):Aa t=QI:=by unfold Aa; rw [if_pos AB]
def TZ:Str:=[97,115,107,32,42,32,48,32,57,57]
def Iy:Str:=[112,97,114,116,115]
def GP:Str:=[102,108,117,115,104]
def Es:Str:=[109,101,114,103,101,32,48]
theorem LnO.ask:LnO TZ:=⟨by decide,by unfold LnD; decide⟩
theorem LnO.parts:LnO Iy:=⟨by decide,by unfold LnD; decide⟩
theorem LnO.flush:LnO GP:=⟨by decide,by unfold LnD; decide⟩
theorem LnO.merge:LnO Es:=⟨by decide,by unfold LnD; decide⟩
end Go.Proofs.YtckdhcbbgmiccaaGreatDoor
namespace Go.Proofs.YtckdhcbbgmiccaaGreatDoor
theorem u8_in {z:Int}(h:0≤z∧z≤255):Value.int .u8 (IntKind.u8.wrap z)=.int .u8 z:=by rw [IntKind.wrap_u8]; congr 1; omega
theorem O1 {s:Str}{b:UInt8}(h:(s.length:Int) > 1) (hb:s[0]? = some b) (h2:(b.toNat:Int)=45):BK s=HP (-1) ((s.take s.length).drop 1):=by
 rw [List.take_length]
 exact Y6 h hb h2
theorem Mt {s:Str}{i:Nat}{b:UInt8}{n:Int}{Y:Option Nat}(h:Lib.decFrom n.toNat (s.drop i)=Y) (hd:s.drop i=b::s.drop (i+1)) (h1:¬ (b.toNat:Int)< 48) (h2:¬ (b.toNat:Int) > 57) (h0:0≤n):Lib.decFrom (10 * n+((b.toNat:Int) - 48)).toNat (s.drop (i+1))=Y:=by
 rw [show (10 * n+((b.toNat:Int) - 48)).toNat=10 * n.toNat+(b.toNat - 48) by omega]
 exact XR h hd h1 h2
theorem Ki {g:Int}{s:Str}{n:Int}(h0:0≤n) (h:inR s.length 1 2=true) (h2:Lib.decFrom 0 s=some n.toNat):HP g s=g * n:=by
 rw [P6 h h2,Int.toNat_of_nonneg h0]
section
variable {w:Wld} {l:Str} {t:Txt} {ws:List Txt}
theorem wk0 (hx:ws[0]? = some t):Bh ws 0=t.s:=Mg hx
theorem bt {a b:Str}(h:(a==b)=true):a=b:=eq_of_beq h
theorem bf {a b:Str}(h:(a==b)=false):¬ a=b:=beq_eq_false_iff_ne.1 h
abbrev Fs:Str:=[97,100,100]
abbrev DC:Str:=[102,108,117,115,104]
abbrev DE:Str:=[109,101,114,103,101]
abbrev Hq:Str:=[102,97,108,108]
abbrev QN:Str:=[97,115,107]
abbrev O2:Str:=[112,97,114,116,115]
theorem lnA (hx:(AZ l 32)[0]? = some t) (h:(t.s==Fs)=true) (hb:Gp (Bh (AZ l 32) 1)=true):Ax w l=(doW w ⟨1,0,0,EI (Bh (AZ l 32) 1),⟨Az (AZ l 32) 2,Az (AZ l 32) 3⟩⟩,[]):=by
 unfold Ax Fq
 rw [wk0 hx,if_pos (bt h),if_pos hb]
 rfl
theorem ZM (hx:(AZ l 32)[0]? = some t) (h:(t.s==Fs)=true) (hb:Gp (Bh (AZ l 32) 1)=false):Ax w l=(w,GC):=by
 unfold Ax Fq
 rw [wk0 hx,if_pos (bt h),if_neg (by simp [hb])]
theorem ZN (hx:(AZ l 32)[0]? = some t) (h0:(t.s==Fs)=false) (h:(t.s==DC)=true) (hl:((AZ l 32).length:Int)=1):Ax w l=(doW w ⟨2,0,9,[],⟨0,0⟩⟩,[]):=by
 unfold Ax Fq evF
 rw [wk0 hx,if_neg (bf h0),if_pos (bt h),if_pos AB]
theorem ZO (hx:(AZ l 32)[0]? = some t) (h0:(t.s==Fs)=false) (h:(t.s==DC)=true) (hl:¬ ((AZ l 32).length:Int)=1):Ax w l=(doW w ⟨2,0,Az (AZ l 32) 1,[],⟨0,0⟩⟩,[]):=by
 unfold Ax Fq evF
 rw [wk0 hx,if_neg (bf h0),if_pos (bt h),if_neg AB]
theorem lnF (hx:(AZ l 32)[0]? = some t) (h0:(t.s==Fs)=false) (h:(t.s==DC)=true):Ax w l=(doW w ⟨2,0,if (1:Int)≥(AZ l 32).length then 9 else Az (AZ l 32) (1:Int).toNat,[],⟨0,0⟩⟩,[]):=by
 have h2:=(List.getElem?_eq_some_iff.1 hx).1
 by_cases hl:((AZ l 32).length:Int)=1
 ·rw [ZN hx h0 h hl,if_pos AB]
 ·rw [ZO hx h0 h hl,if_neg AB]
  rfl
theorem ZP (hx:(AZ l 32)[0]? = some t) (h0:(t.s==Fs)=false) (h1:(t.s==DC)=false) (h:(t.s==DE)=true) (hl:((AZ l 32).length:Int)< 3):Ax w l=(doW w ⟨3,Az (AZ l 32) 1,9,[],⟨0,0⟩⟩,[]):=by
 unfold Ax Fq evM
 rw [wk0 hx,if_neg (bf h0),if_neg (bf h1),if_pos (bt h),if_pos AB]
theorem ZQ (hx:(AZ l 32)[0]? = some t) (h0:(t.s==Fs)=false) (h1:(t.s==DC)=false) (h:(t.s==DE)=true) (hl:¬ ((AZ l 32).length:Int)< 3):Ax w l=(doW w ⟨3,Az (AZ l 32) 1,Az (AZ l 32) 2,[],⟨0,0⟩⟩,[]):=by
 unfold Ax Fq evM
 rw [wk0 hx,if_neg (bf h0),if_neg (bf h1),if_pos (bt h),if_neg AB]
theorem lnM (hx:(AZ l 32)[0]? = some t) (h0:(t.s==Fs)=false) (h1:(t.s==DC)=false) (h:(t.s==DE)=true):Ax w l=(doW w ⟨3,Az (AZ l 32) 1,if (2:Int)≥(AZ l 32).length then 9 else Az (AZ l 32) (2:Int).toNat,[],⟨0,0⟩⟩,[]):=by
 by_cases hl:((AZ l 32).length:Int)< 3
 ·rw [ZP hx h0 h1 h hl,if_pos AB]
 ·rw [ZQ hx h0 h1 h hl,if_neg AB]
  rfl
theorem lnX (hx:(AZ l 32)[0]? = some t) (h0:(t.s==Fs)=false) (h1:(t.s==DC)=false) (h2:(t.s==DE)=false) (h:(t.s==Hq)=true):Ax w l=(doW w ⟨4,0,0,[],⟨0,0⟩⟩,[]):=by
 unfold Ax Fq
 rw [wk0 hx,if_neg (bf h0),if_neg (bf h1),if_neg (bf h2),if_pos (bt h)]
theorem oE (hx:(AZ l 32)[0]? = some t) (h0:(t.s==Fs)=false) (h1:(t.s==DC)=false) (h2:(t.s==DE)=false) (h:(t.s==Hq)=true):Ax w l=(BC w,[]):=by
 rw [lnX hx h0 h1 h2 h,NX rfl]
theorem lnK (hx:(AZ l 32)[0]? = some t) (h0:(t.s==Fs)=false) (h1:(t.s==DC)=false) (h2:(t.s==DE)=false) (h3:(t.s==Hq)=false) (h:(t.s==QN)=true) (hb:(BI (Bh (AZ l 32) 1)).2=true) :
 Ax w l=(w,Cc (Bt w.store (BI (Bh (AZ l 32) 1)).1 (Az (AZ l 32) 2) (Az (AZ l 32) 3))):=by
 unfold Ax Fq
 rw [wk0 hx,if_neg (bf h0),if_neg (bf h1),if_neg (bf h2),if_neg (bf h3),if_pos (bt h),if_pos hb]
theorem ZR (hx:(AZ l 32)[0]? = some t) (h0:(t.s==Fs)=false) (h1:(t.s==DC)=false) (h2:(t.s==DE)=false) (h3:(t.s==Hq)=false) (h:(t.s==QN)=true) (hb:(BI (Bh (AZ l 32) 1)).2=false):Ax w l=(w,GC):=by
 unfold Ax Fq
 rw [wk0 hx,if_neg (bf h0),if_neg (bf h1),if_neg (bf h2),if_neg (bf h3),if_pos (bt h),if_neg (by simp [hb])]
theorem lnP (hx:(AZ l 32)[0]? = some t) (h0:(t.s==Fs)=false) (h1:(t.s==DC)=false) (h2:(t.s==DE)=false) (h3:(t.s==Hq)=false) (h4:(t.s==QN)=false) (h:(t.s==O2)=true):Ax w l=(w,Kg w):=by
 unfold Ax Fq
 rw [wk0 hx,if_neg (bf h0),if_neg (bf h1),if_neg (bf h2),if_neg (bf h3),if_neg (bf h4),if_pos (bt h)]
theorem lnN (hx:(AZ l 32)[0]? = some t) (h0:(t.s==Fs)=false) (h1:(t.s==DC)=false) (h2:(t.s==DE)=false) (h3:(t.s==Hq)=false) (h4:(t.s==QN)=false) (h5:(t.s==O2)=false):Ax w l=(w,GC):=by
 unfold Ax Fq
 rw [wk0 hx,if_neg (bf h0),if_neg (bf h1),if_neg (bf h2),if_neg (bf h3),if_neg (bf h4),if_neg (bf h5)]
theorem Vs (h:WV w) (hl:LnD l) (lo hi:Int):Bt w.store (BI (Bh (AZ l 32) 1)).1 lo hi=Fi (fits (BI (Bh (AZ l 32) 1)).1) w.store lo hi:=Oh h.k (TS _ hl)
theorem Vt (h:WV w) (hl:LnD l) (lo hi:Int):(∀ x∈Fi (fits (BI (Bh (AZ l 32) 1)).1) w.store lo hi,HitD x)∧(Fi (fits (BI (Bh (AZ l 32) 1)).1) w.store lo hi).length≤6:=by
 rw [← Vs h hl]
 exact E7 h.sd h.k _ _ _
theorem E8 {k:Nat}(hx:(ws++[⟨[]⟩,⟨[]⟩,⟨[]⟩])[k]? = some t):Bh ws k=t.s:=by
 by_cases hk:k< ws.length
 ·rw [List.getElem?_append_left hk] at hx
  exact Mg hx
 ·rw [List.getElem?_append_right AB] at hx
  have hm:=AV hx
  simp only [List.mem_cons,List.not_mem_nil,or_false,or_self] at hm
  rw [P4 AB,hm]
theorem Jr {k:Nat}(hx:(ws++[⟨[]⟩,⟨[]⟩,⟨[]⟩])[k]? = some t):BK t.s=Az ws k:=by rw [TR,E8 hx]
theorem RI (hx:(ws++[⟨[]⟩,⟨[]⟩,⟨[]⟩])[0]? = some t) (hl:0< ws.length):ws[0]? = some t:=by rwa [List.getElem?_append_left hl] at hx
theorem Ch (s:Str) (c:UInt8):0< (AZ s c).length:=by
 obtain ⟨y,ys,h⟩:=On c s
 rw [Oo,h]
 simp
theorem Vu {k:Nat}(hx:(ws++[⟨[]⟩,⟨[]⟩,⟨[]⟩])[k]? = some t):t∈ws∨t=⟨[]⟩:=by
 have hm:=AV hx
 rcases List.mem_append.1 hm with hm | hm
 ·exact .inl hm
 ·simp only [List.mem_cons,List.not_mem_nil,or_false,or_self] at hm
  exact .inr hm
theorem Ft {k:Nat}{n:Nat}(hx:(ws++[⟨[]⟩,⟨[]⟩,⟨[]⟩])[k]? = some t) (hn:∀ t∈ws,t.s.length≤n):t.s.length≤n:=by
 rcases Vu hx with h | h
 ·exact hn t h
 ·subst h; simp
theorem Mu (h:WV w):(Ax w l).2.length≤5500:=by
 have key:∀ f lo hi,(Cc (Bt w.store f lo hi)).length≤5500:=fun f lo hi=>by
  obtain ⟨a,b⟩:=E7 h.sd h.k f lo hi
  have:=N8 a
  omega
 have hw:GC.length≤5500:=by decide
 have hp:(Kg w).length≤5500:=by
  have h1:=Au w.store.parts.length
  have h2:=Au w.store.mem.length
  have h3:=Au w.disk.files.length
  unfold Kg
  simp only [List.length_append,List.length_cons,List.length_nil]
  omega
 unfold Ax Fq
 split
 ·split
  ·simp
  ·exact hw
 ·split
  ·simp
  ·split
   ·simp
   ·split
    ·simp
    ·split
     ·split
      ·exact key _ _ _
      ·exact hw
     ·split
      ·exact hp
      ·exact hw
theorem Lq (h:WV w) (hl:LnD l):WV (Ax w l).1:=QL h hl
theorem ID (h:WV w):w.store.parts.length≤6∧w.store.mem.length≤20∧w.disk.files.length≤20:=⟨(Jp h).1,(Jp h).2.1,h.v.nf⟩
def Iz (n:Int):Txt:=⟨BF n⟩
theorem Xb {ns:List Int}{k:Nat}{n:Int}{out:List Txt}{Y:List Txt}(h:out++(ns.drop k).map Iz=Y) (hd:ns.drop k=n::ns.drop (k+1)):(out++[⟨BF n⟩])++(ns.drop (k+1)).map Iz=Y:=by
 rw [hd] at h
 rw [← h]
 simp [Iz]
theorem RJ {a b c:Int}:Lib.join ((([a,b,c]:List Int).map Iz).map Txt.s) [32]=BF a++[32]++BF b++[32]++BF c:=by
 simp [Lib.join,List.intercalate,Iz]
end
theorem N9 (s:Str) (k:Nat):(Bh (AZ s 32) k).length≤s.length:=by
 unfold Bh
 cases h:(AZ s 32)[k]? with
 | none=>simp
 | some t=>exact (BO s 32).1 t (AV h)
theorem Mw {w:Wld}(h:WV w):Bt w.store [] 0 99=Fi (fits []) w.store 0 99:=Oh h.k Ma
theorem SU {w:Wld}(h:WV w):(∀ x∈Fi (fits []) w.store 0 99,HitD x)∧(Fi (fits []) w.store 0 99).length≤6:=by
 rw [← Mw h]
 exact E7 h.sd h.k _ _ _
theorem E9 {w:Wld}(h:WV w):(∀ l,(Ax w l).2.length≤5500)∧(Cc (Bt w.store [] 0 99)).length≤5500∧(Cc (Fi (fits []) w.store 0 99)).length≤5500:=by
 have key:(Cc (Bt w.store [] 0 99)).length≤5500:=by
  obtain ⟨a,b⟩:=E7 h.sd h.k [] 0 99
  have:=N8 a
  omega
 exact ⟨fun l=>Mu h,key,by rw [← Mw h]; exact key⟩
theorem RL (s:Str):(AZ s ([10].headD 0)).length≤s.length+1∧(((AZ s ([10].headD 0)).take (((AZ s ([10].headD 0)).length:Int) - 1).toNat).drop 0).length≤s.length+1:=by
 have h:=(BO s ([10].headD 0)).2
 refine ⟨h,?_⟩
 rw [List.length_drop,List.length_take]
 omega
theorem Mx {w:Wld}{out l:Str}{k:Nat}(h:WV w) (ho:out.length≤5500 * k):(out++(Ax w l).2).length≤5500 * (k+1):=by
 have:=Mu (l:=l) h
 rw [List.length_append]
 omega
theorem SV (s:Str):(AZ s 10).length≤s.length+1∧(((AZ s 10).take (((AZ s 10).length:Int) - 1).toNat).drop 0).length≤s.length+1:=by
 have h:=(BO s 10).2
 refine ⟨h,?_⟩
 rw [List.length_drop,List.length_take]
 omega
theorem RM {ts:List Txt}{k:Nat}{w:Wld}{out:Str}{t:Txt}{Y:Wld × Str}(h:(ts.drop k).foldl lnS (w,out)=Y) (hd:ts.drop k=t::ts.drop (k+1)):(ts.drop (k+1)).foldl lnS ((Ax w t.s).1,out++(Ax w t.s).2)=Y:=by
 rw [hd] at h
 exact h
theorem X9 {ts:List Txt}{k:Nat}{p:Wld × Str}{Y:Wld × Str}(h:(ts.drop k).foldl lnS p=Y) (hk:ts.length≤k):p=Y:=by
 rw [Ac hk] at h
 exact h
theorem Gq {s:Str}{k:Nat}{t:Txt}(hk:k+1< (AZ s 10).length) (hx:(AZ s 10)[k]? = some t):(DT s)[k]? = some t:=by
 unfold DT
 rw [List.getElem?_take,if_pos AB]
 exact hx
theorem Dp (s:Str):(DT s).length=(AZ s 10).length - 1:=by
 unfold DT
 rw [List.length_take]
 omega
theorem QO (s:Str):((AZ s 10).take (((AZ s 10).length:Int) - 1).toNat).drop 0=DT s:=by
 unfold DT
 rw [List.drop_zero,show (((AZ s 10).length:Int) - 1).toNat=(AZ s 10).length - 1 by omega]
theorem Kj {s:Str}{t:Txt}(h:t∈((AZ s 10).take (((AZ s 10).length:Int) - 1).toNat).drop 0):t∈DT s:=by rw [← QO]; exact h
theorem Xc {s:Str}{t:Txt}(h:t∈DT s):t.s.length≤s.length:=(BO s 10).1 t (List.mem_of_mem_take h)
theorem K1 {s:Str}(h:(s.length:Int) > 600):Aa s=QI:=Oy h
theorem My {s:Str}{p:Wld × Str}(h:¬ (s.length:Int) > 600) (hp:p=(DT s).foldl lnS (EL,[])):Aa s=p.2++Vi++Cc (Bt p.1.store [] 0 99):=by
 unfold Aa
 rw [if_neg AB,← hp]
 rfl
end Go.Proofs.YtckdhcbbgmiccaaGreatDoor
