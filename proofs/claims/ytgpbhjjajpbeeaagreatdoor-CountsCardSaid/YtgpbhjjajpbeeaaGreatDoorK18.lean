/- A part of what the last file proves. -/
import Derived.Test.YtgpbhjjajpbeeaaGreatDoorK17
import Derived.Shelf.Strings.SlTrimAscii
import Derived.Deep.OwnRows
set_option linter.all false
set_option maxRecDepth 100000
set_option maxHeartbeats 3200000
namespace Go.Proofs.YtgpbhjjajpbeeaaGreatDoor
section
open Go.RowKit Go.Lib Go.Maps Dk Pl
theorem a8d(d:D)(n:Nm):(d.size n).2.2.ids=d.ids/\(d.size n).2.2.node=d.node/\(d.size n).2.2.now=d.now/\((d.size n).2.1≠.ok->(d.size n).1=0/\∃k,(d.size n).2.1=.file k n)/\
 ((d.size n).2.1=.ok->∃x,(x∈d.now.map Prod.snd)/\(d.size n).1=((d.node x).data.length:Nat)):=by
 have hm:=a2C d n
 cases hx:(d.find n).1 with
 | none=>
  obtain⟨k,hk⟩:=a7R d n hx;rw[a4R hx]
  exact⟨hm.2.2.1,hm.2.2.2.1,hm.2.1,fun _=>⟨rfl,k,hk⟩,fun h=>by dsimp only at h;rw[hk] at h;cases h⟩
 | some x=>
  rw[a7y hx];refine⟨hm.2.2.1,hm.2.2.2.1,hm.2.1,fun h=>absurd rfl h,fun _=>⟨x,?_,by rw[hm.2.2.2.1]⟩⟩;unfold D.find at hx;split at hx
  ·cases hx
  ·split at hx
   ·cases hx
   ·rename_i y hy;injection hx with hx;subst hx;exact List.mem_map.2 ⟨_,a0i hy,rfl⟩
theorem a92(F:Nat->Prop)(a:Nat)(d:D)(name:Nm)(w:World)(h:o8 w F a d)(hn:name.length<=maxLen)(hds:∀x∈d.ids,(d.node x).data.length<=35184372088832):
 Calls Tryz.prog 55 #[l7 a,strV name] w (b0W F a (d.whole name) w):=by
 have hsize:=b2h F a d name w h hn;have hsf:=a8d d name;have hwf:=h.wf;obtain⟨⟨k,er,d1⟩,hr⟩:∃r,d.size name=r:=⟨_,rfl⟩;have hw:(er=.ok->d.whole name=d1.readAt name 0 k)/\(er≠.ok->d.whole name=([],er,d1)):=by
  unfold D.whole;rw[hr];cases er
  ·exact⟨fun _=>rfl,fun h=>absurd rfl h⟩
  ·exact⟨fun h=>(by cases h),fun _=>rfl⟩
  ·exact⟨fun h=>(by cases h),fun _=>rfl⟩
 rw[hr] at hsize hsf;dsimp only at hsf;have HS:=Lib.hid hsize;have HW:=Lib.hid hw;clear hsize hw hr h;unfold l7 strV at *;go_enter Tryz.func55,Tryz.ntmps55
 go_wp2_with fail
 refine HS.out.mono ?_;rintro e w1 ⟨v,rfl,hv,hD,hC⟩
 cases er with
 | ok=>
  obtain rfl:v=.nilIface:=hv.get;obtain⟨x,hx,hk⟩:=hsf.2.2.2.2 rfl;obtain⟨p,hp,rfl⟩:=List.mem_map.1 hx;have hkl:=hds _ (hwf.now p hp);have hrd:=a7T F a d1 name 0 k w1 hD hn (by omega) (by omega) (fun x hx=>by rw[hsf.2.1];rw[hsf.1] at hx;have:=hds x hx;omega);have HR:=Lib.hid hrd;have HC:=Lib.hid hC;clear hrd hC hD hv hsf hk hx hp;unfold l7 strV at HR;go_wp2_with fail
  refine HR.out.mono ?_;rintro e w2 ⟨u,v2,rfl,hB,hv2,hD2,hC2,hfl⟩;have hfin:b0W F a (d.whole name) w (.returned (.tuple #[u,v2])) w2:=by
   rw[HW.out.1 (by trivial)];exact⟨u,v2,rfl,I6 hB HC.out.size,hv2,hD2,HC.out.trans hC2,hfl⟩
  have HF:=Lib.hid hfin;clear hfin hB hv2 hD2 hC2;go_wp2;go_ret2
  exact HF.out
 | num m=>
  obtain⟨_,j,hj⟩:=hsf.2.2.2.1 (by simp)
  cases hj
 | file m nm=>
  obtain⟨b,hvb,-⟩:=hv.get;subst hvb;have hfin:b0W F a (d.whole name) w (.returned (.tuple #[.slice none 0 0,.iface 132 (.pointer (some ⟨b,0,none⟩))])) w1:=by
   rw[HW.out.2 (by simp)];exact⟨_,_,rfl,⟨rfl,Or.inl ⟨rfl,rfl⟩⟩,hv,hD,hC,a1P.nil _ _ _⟩
  have HF:=Lib.hid hfin;clear hfin hv hD hC hsf;go_wp2;go_ret2
  exact HF.out
theorem b2p{w:World}{b:Nat}{x0 x1:Value}(h:j6 w b 125 #[x0,x1])(g:Int)(v:Value):
 w.frozen? ⟨b,0,none⟩=false/\(w.setCell ⟨b,0,none⟩ (.int .u64 g)).cell? ⟨b,1,none⟩=some x1/\(w.setCell ⟨b,0,none⟩ (.int .u64 g)).frozen? ⟨b,1,none⟩=false/\
 ((w.setCell ⟨b,0,none⟩ (.int .u64 g)).setCell ⟨b,1,none⟩ v).cell? ⟨b,0,none⟩=some (.int .u64 g)/\((w.setCell ⟨b,0,none⟩ (.int .u64 g)).setCell ⟨b,1,none⟩ v).cell? ⟨b,1,none⟩=some v:=by
 have h1:=h.set 0 (.int .u64 g);have h2:=h1.set 1 v;refine⟨h.free 0,?_,h1.free 1,?_,?_⟩
 ·rw[h1.cell];simp
 ·rw[h2.cell];simp
 ·rw[h2.cell];simp
def c48(F:Nat->Prop)(a:Nat)(r:Option (Nat×List Int)×Er×D)(w:World)(e:Ending)(w':World):Prop:=
 ∃g v y,e=.returned (.tuple #[.agg #[.int .u64 g,v],y])/\o8 w' F a r.2.2/\Chg F F w w'/\
  ((r.1=none/\g=0/\v=.slice none 0 0/\r.2.1≠.ok/\Held w' F (fun W=>Y4 W y r.2.1))\/(∃gen ids,r.1=some (gen,ids)/\r.2.1=.ok/\g=(gen:Int)/\y=.nilIface/\OwnI w' w.heap.size v ids))
theorem a94{w:World}{F:Nat->Prop}{v:Value}{m:Int}{nm:Nm}(h:Held w F (fun W=>Y4 W v (.file m nm))):∃b,v=.iface 132 (.pointer (some ⟨b,0,none⟩))/\j6 w b 134 #[strV nm,.int .i64 m]/\¬F b:=by
 obtain⟨b,rfl,hb⟩:=h.get;refine⟨b,rfl,hb,fun hF=>?_⟩;obtain⟨S,h1,h2⟩:=h;obtain⟨b',e,hb'⟩:=h2 {w with heap:=w.heap.setIfInBounds b (.map #[] 0)} fun k hk=>by
  have hne:b≠k:=fun e=>(h1 k hk).2 (e▸hF);show(w.heap.setIfInBounds b _)[k]?=_;rw[Array.getElem?_setIfInBounds_ne hne]
 injection e with _ e;injection e with e;injection e with e;injection e with e;subst e;have h3:(w.heap.setIfInBounds b (.map #[] 0))[b]?=some (.cells #[strV nm,.int .i64 m] 134):=hb';rw[Array.getElem?_setIfInBounds_self_of_lt hb.lt] at h3;cases h3
theorem b2q(d:D)(n:Nm):(d.whole n).2.1=.ok\/∃k,(d.whole n).2.1=.file k n:=by
 have hs:=a8d d n;unfold D.whole;obtain⟨⟨k,er,d1⟩,hr⟩:∃r,d.size n=r:=⟨_,rfl⟩;rw[hr] at hs⊢;dsimp only at hs⊢
 cases er with
 | ok=>
  dsimp only
  cases hx:(d1.find n).1 with
  | none=>
   obtain⟨j,hj⟩:=a7R d1 n hx;rw[a2D hx]
   exact .inr ⟨j,hj⟩
  | some x=>rw[a3M hx];exact .inl rfl
 | num m=>
  obtain⟨_,j,hj⟩:=hs.2.2.2.1 (by simp)
  cases hj
 | file m nm=>
  obtain⟨_,j,hj⟩:=hs.2.2.2.1 (by simp);injection hj with h1 h2;subst h2;exact .inr ⟨m,rfl⟩
theorem b03(F:Nat->Prop)(a:Nat)(d:D)(w:World)(h:o8 w F a d)(hds:∀x∈d.ids,(d.node x).data.length<=35184372088832):
 Calls Tryz.prog 54 #[l7 a] w (c48 F a d.readMan w):=by
 have hx0:j6 (w.alloc (.cells #[.int .u64 0,.slice none 0 0] 125)) w.heap.size 125 #[.int .u64 0,.slice none 0 0]:=j6.new _ _ rfl;have hE0:Ext w (w.alloc (.cells #[.int .u64 0,.slice none 0 0] 125)):=(Ext.refl w).new _;have hwh:=a92 F a d F5 _ (h.ext hE0) (by unfold F5 maxLen;simp) hds;have hlow:=h.low;obtain⟨⟨bs,er,d1⟩,hr⟩:∃r,d.whole F5=r:=⟨_,rfl⟩;have hrm:(er=.ok->d.readMan=match readMan bs with|some r=>(some r,.ok,d1)|none=>(none,.num 6,d1))/\(er≠.ok->d.readMan=(none,if er.code=11 then .num 5 else er,d1)):=by
  unfold D.readMan;rw[hr];cases er
  ·exact⟨fun _=>rfl,fun h=>absurd rfl h⟩
  ·exact⟨fun h=>(by cases h),fun _=>rfl⟩
  ·exact⟨fun h=>(by cases h),fun _=>rfl⟩
 have hcl:=b2q d F5;rw[hr] at hcl;rw[hr] at hwh;have HW:=Lib.hid hwh;have HR:=Lib.hid hrm;have HX:=Lib.hid hx0;have HE:=Lib.hid hE0;have HL:=Lib.hid hlow;clear hwh hrm hr hx0 hE0 hlow h;unfold l7 strV at *;unfold F5 at HW;go_enter Tryz.func54,Tryz.ntmps54
 go_wp2_with fail
 refine HW.out.mono ?_;rintro e w1 ⟨u,v,rfl,hB,hv,hD,hC,-⟩;have hxb:=HX.out;have hx1:j6 w1 w.heap.size 125 #[.int .u64 0,.slice none 0 0]:=(hC.block _ hxb.lt (fun hF=>by have:=HL.out _ hF;omega)).trans hxb;have hC1:=(Chg.ext (F:=F) HE.out).trans hC;have his:=b82 er v 11 w1 hv.get (by omega);have hsz1:w.heap.size<=w1.heap.size:=hC1.size;have hby:=hB.bytes;have c0:=(hx1.cell 0).trans (show _=some (Value.int .u64 0) from rfl);have c1:=(hx1.cell 1).trans (show _=some (Value.slice none 0 0) from rfl);have f0:=hx1.free 0;have f1:=hx1.free 1;have HIS:=Lib.hid his;have HX1:=Lib.hid hx1;have HC:=Lib.hid hC1;have HV:=Lib.hid hv;have HD:=Lib.hid hD;have HBY:=Lib.hid hby;clear his hx1 hC1 hC hD hby HX HW;unfold Q6 at HIS
 cases er with
 | ok=>
  obtain rfl:v=.nilIface:=HV.out.get;have hrm:=b1o u bs w1 HBY.out;have HRM:=Lib.hid hrm;clear hrm hv hB;go_wp2_with fail
  refine HIS.out.mono ?_;rintro e w2 ⟨rfl,rfl⟩;go_wp2_with fail
  refine HRM.out.mono ?_;rintro e w3 ⟨g,v3,y,rfl,hE3,hcase⟩;have hx3:j6 w3 w.heap.size 125 #[.int .u64 0,.slice none 0 0]:=(hE3.block _ HX1.out.lt).trans HX1.out;have d0:=(hx3.cell 0).trans (show _=some (Value.int .u64 0) from rfl);have d1':=(hx3.cell 1).trans (show _=some (Value.slice none 0 0) from rfl);obtain⟨z1,z2,z3,z4,z5⟩:=b2p hx3 g v3;have hD3:=HD.out.ext hE3;have hC3:=HC.out.trans (Chg.ext hE3);have hlowb:∀b,F b->b≠w.heap.size:=fun b hb=>by have:=HL.out b hb;omega
  have hO:=((Off.refl w.heap.size w3).setCell 0 (.int .u64 g)).setCell 1 v3;have hD4:=hD3.frame (fun b hb=>hO.block b (hlowb b hb)) (Nat.le_of_eq hO.size.symm);have hC4:Chg F F w ((w3.setCell ⟨w.heap.size,0,none⟩ (.int .u64 g)).setCell ⟨w.heap.size,1,none⟩ v3):=
   ⟨hO.os.trans hC3.os,hO.tape.trans hC3.tape,hO.output.trans hC3.output,by rw[hO.size];exact hC3.size,fun b hb hF=>(hO.block b (by omega)).trans (hC3.block b hb hF),fun b hb=>.inl hb⟩
  have HD4:=Lib.hid hD4;have HC4:=Lib.hid hC4;have HO:=Lib.hid hO;have HX3:=Lib.hid hx3;clear hD3 hC3 hD4 hC4 hO hx3 hlowb HD HC HV HRM HIS;rcases hcase with⟨hno,rfl,rfl,rfl⟩|⟨gen,ids,hso,rfl,rfl,hown⟩
  ·have hrd:d.readMan=(none,.num 6,d1):=by rw[HR.out.1 (by trivial),hno]
   have HRD:=Lib.hid hrd;clear hrd hno HR;unfold Q6;go_wp2;refine bodyPost_ret (v:=.tuple #[.agg #[.int .u64 0,.slice none 0 0],Q6 6]) (by simp[results,Tryz.results54,go_sem,z4,z5,Q6]) rfl ⟨0,_,_,rfl,?_,?_,Or.inl ⟨?_,rfl,rfl,?_,?_⟩⟩
   ·rw[HRD.out];exact HD4.out
   ·exact HC4.out
   ·rw[HRD.out]
   ·rw[HRD.out];simp
   ·rw[HRD.out];exact b2c _ _ _
  ·obtain⟨ia,ic,hv3⟩:=ownsRow_form hown;subst hv3;have hrd:d.readMan=(some (gen,ids),.ok,d1):=by rw[HR.out.1 (by trivial),hso]
   have HRD:=Lib.hid hrd;have HOWN:=Lib.hid hown;clear hrd hso HR hown;go_wp2;refine bodyPost_ret (v:=.tuple #[.agg #[.int .u64 gen,.slice ia ids.length ic],.nilIface]) (by simp[results,Tryz.results54,go_sem,z4,z5]) rfl ⟨_,_,_,rfl,?_,?_,Or.inr ⟨gen,ids,?_,?_,rfl,rfl,?_⟩⟩
   ·rw[HRD.out];exact HD4.out
   ·exact HC4.out
   ·rw[HRD.out]
   ·rw[HRD.out]
   ·have hne:=A8 HOWN.out HX3.out (by decide)
    exact I6 (Dep.row HOWN.out _ fun b hb=>HO.out.block b fun e=>hne (e▸hb)) hsz1
 | num m=>rcases hcl with h|⟨_,h⟩<;>cases h
 | file m nm=>
  obtain⟨fb,hvb,hfbb,hfbF⟩:=a94 HV.out;subst hvb;obtain⟨z1,z2,z3,z4,z5⟩:=b2p HX1.out 0 (.slice none 0 0);have hlowb:∀b,F b->b≠w.heap.size:=fun b hb=>by have:=HL.out b hb;omega
  have hO:=((Off.refl w.heap.size w1).setCell 0 (.int .u64 0)).setCell 1 (.slice none 0 0);have hD4:=HD.out.frame (fun b hb=>hO.block b (hlowb b hb)) (Nat.le_of_eq hO.size.symm);have hC4:Chg F F w ((w1.setCell ⟨w.heap.size,0,none⟩ (.int .u64 0)).setCell ⟨w.heap.size,1,none⟩ (.slice none 0 0)):=
   ⟨hO.os.trans HC.out.os,hO.tape.trans HC.out.tape,hO.output.trans HC.out.output,by rw[hO.size];exact HC.out.size,fun b hb hF=>(hO.block b (by omega)).trans (HC.out.block b hb hF),fun b hb=>.inl hb⟩
  have hfne:fb≠w.heap.size:=fun e=>by
   subst e;have h3:=HX1.out;unfold j6 at h3 hfbb;rw[h3] at hfbb;injection hfbb with hfbb;injection hfbb with h4 h5 h6;revert h5;decide
  have hH4:Held ((w1.setCell ⟨w.heap.size,0,none⟩ (.int .u64 0)).setCell ⟨w.heap.size,1,none⟩ (.slice none 0 0)) F (fun W=>Y4 W (.iface 132 (.pointer (some ⟨fb,0,none⟩))) (.file m nm)):=
   (Held.box ((hO.block fb hfne).trans hfbb) hfbF).mono fun W hW=>⟨_,rfl,hW⟩
  by_cases hm:m=11
  ·subst hm;have hrd:d.readMan=(none,.num 5,d1):=HR.out.2 (by simp);have HD4:=Lib.hid hD4;have HC4:=Lib.hid hC4;have HRD:=Lib.hid hrd;clear hD4 hC4 hrd hlowb hO HD HC HR hv hB HBY hH4 hfbb hfbF hfne;have hd:decide (Er.code (.file 11 nm)=11)=true:=rfl;rw[hd] at HIS;clear hd;go_wp2_with fail
   refine HIS.out.mono ?_;rintro e w2 ⟨rfl,rfl⟩;go_wp2;refine bodyPost_ret (v:=.tuple #[.agg #[.int .u64 0,.slice none 0 0],Q6 5]) (by simp[results,Tryz.results54,go_sem,z4,z5,Q6]) rfl ⟨0,_,_,rfl,?_,?_,Or.inl ⟨?_,rfl,rfl,?_,?_⟩⟩
   ·rw[HRD.out];exact HD4.out
   ·exact HC4.out
   ·rw[HRD.out]
   ·rw[HRD.out];simp
   ·rw[HRD.out];exact b2c _ _ _
  ·have hrd:d.readMan=(none,.file m nm,d1):=by
    have:=HR.out.2 (by simp);rw[this];simp[Er.code,hm]
   have HD4:=Lib.hid hD4;have HC4:=Lib.hid hC4;have HRD:=Lib.hid hrd;have HH4:=Lib.hid hH4;clear hD4 hC4 hrd hlowb hO HD HC HR hv hB HBY hH4 hfbb hfbF hfne;have hd:decide (Er.code (.file m nm)=11)=false:=decide_eq_false hm;rw[hd] at HIS;clear hd;go_wp2_with fail
   refine HIS.out.mono ?_;rintro e w2 ⟨rfl,rfl⟩;go_wp2;refine bodyPost_ret (v:=.tuple #[.agg #[.int .u64 0,.slice none 0 0],.iface 132 (.pointer (some ⟨fb,0,none⟩))]) (by simp[results,Tryz.results54,go_sem,z4,z5,Q6]) rfl ⟨0,_,_,rfl,?_,?_,Or.inl ⟨?_,rfl,rfl,?_,?_⟩⟩
   ·rw[HRD.out];exact HD4.out
   ·exact HC4.out
   ·rw[HRD.out]
   ·rw[HRD.out];simp
   ·rw[HRD.out];exact HH4.out
end
section
open Go.RowKit Go.Lib Go.Maps Dk Pl
end
section
open Go.RowKit Go.Lib Go.Maps Dk Pl
theorem Z7{u:Nat}(h:u<10):Lib.decDigits u=[digit u]:=by
 rw[Lib.decDigits,dif_pos h];unfold digit;rw[Nat.mod_eq_of_lt h]
theorem a4g{u:Nat}(h:¬u<10):Lib.decDigits u=Lib.decDigits (u/10)++[digit u]:=by
 rw[Lib.decDigits,dif_neg h];rfl
theorem b2m(u:Nat):∀k,sfx u (k+1)=sfx (u/10) k++[digit u]:=by
 intro k
 induction k with
 | zero=>simp[sfx]
 | succ k ih=>
  have e1:sfx u (k+1+1)=digit (u/10^(k+1))::sfx u (k+1):=rfl;have e2:sfx (u/10) (k+1)=digit (u/10/10^k)::sfx (u/10) k:=rfl;rw[e1,e2,ih,Nat.div_div_eq_div_mul,Nat.pow_succ,Nat.mul_comm];rfl
theorem b85:∀m,sfx 0 m=Lib.repeatL [48] m:=by
 intro m
 induction m with
 | zero=>rfl
 | succ m ih=>
  have e1:sfx 0 (m+1)=digit (0/10^m)::sfx 0 m:=rfl;rw[e1,ih,Nat.zero_div];rfl
theorem c1q:∀(k u:Nat),u<10^(k+1)->∃j,(Lib.decDigits u).length+j=k+1/\Lib.repeatL [48] j++Lib.decDigits u=sfx u (k+1):=by
 intro k
 induction k with
 | zero=>
  intro u h;have h':u<10:=by simpa using h
  exact⟨0,by rw[Z7 h'];rfl,by rw[Z7 h'];simp[sfx,Lib.repeatL]⟩
 | succ k ih=>
  intro u h;by_cases h':u<10
  ·refine⟨k+1,by rw[Z7 h'];simp;omega,?_⟩;rw[Z7 h',b2m u (k+1),show u/10=0 by omega,b85]
  ·obtain⟨j,h1,h2⟩:=ih (u/10) (by rw[Nat.pow_succ] at h;omega);refine⟨j,by rw[a4g h'];simp;omega,?_⟩;rw[a4g h',b2m u (k+1),<-h2,List.append_assoc]
def a0G(w:World):Prop:=Lib.TabIs Tryz.prog w "internal/strconv.uint64pow10" .u64 Lib.pow10Tab
theorem b86(w:World)(k:Nat)(os:Array Obj):Ext w (Go.Sort.grow (w.drewN k) os):=by
 have h:=Ext.drewN w k;refine⟨h.os,h.tape,h.output,?_,fun b hb=>?_⟩
 ·show w.heap.size<=((w.drewN k).heap++os).size;have:=h.size;simp only[Array.size_append];omega
 ·show((w.drewN k).heap++os)[b]?=_;rw[Array.getElem?_append_left (by have:=h.size;omega)];exact h.block b hb
theorem a9X(kind:Nm)(id:Nat)(w:World)(hk:kind.length<=1000)(hid:id<=999999)(hl:a0G w):
 Calls Tryz.prog 56 #[strV kind,.int .i64 id] w fun e w'=>e=.returned (strV (C8 kind id))/\Ext w w':=by
 obtain⟨j,hj,hpad⟩:=c1q 5 id (by omega);have hit:Lib.itoa (id:Int)=Lib.decDigits id:=by unfold Lib.itoa;rw[if_neg (by omega)];rfl
 have hi:=Tryz.strconv_Itoa (id:Int) (by omega) (by omega) w hl;rw[hit] at hi;obtain⟨ds,hds⟩:∃ds,Lib.decDigits id=ds:=⟨_,rfl⟩;rw[hds] at hi hj hpad;have HI:=Lib.hid hi;have HP:=Lib.hid hpad;clear hi hpad hit hds hl;unfold strV;go_enter Tryz.func56,Tryz.ntmps56
 go_wp2_with fail
 refine HI.out.mono ?_;rintro e w1 ⟨rfl,kd,os,rfl⟩;have hE1:=b86 w kd os;have hr:=Tryz.strings_Repeat ⟨#[48]⟩ j (Go.Sort.grow (w.drewN kd) os) (by omega) (by show 1*j<=_;omega);have hsub:(6:Int) - (ds.length:Int)=(j:Int):=by omega
 have HE:=Lib.hid hE1;have HR:=Lib.hid hr;clear hE1 hr;have hdl:ds.length<=6:=by omega
 have hrl:(Lib.repeatL [48] j).length=j:=by rw[Lib.repeatL_length];simp
 obtain⟨zs,hzs⟩:∃zs,Lib.repeatL [48] j=zs:=⟨_,rfl⟩;rw[hzs] at hrl;have hjl:zs.length<=6:=by omega
 have HZ:=Lib.hid hzs;clear hzs hrl;go_wp2_with fail
 refine HR.out.mono ?_;rintro e w2 ⟨rfl,hE2⟩;have hE3:=Ext.trans HE.out hE2;have HE3:=Lib.hid hE3;clear hE3 hE2;rw[show Lib.repeatL (⟨#[48]⟩:ByteArray).data.toList j=zs from HZ.out];go_wp2;go_ret;refine⟨?_,HE3.out⟩;rw[a6z,<-HP.out,HZ.out,<-List.append_assoc,<-a7B,<-a7B];rfl
end
section
open Go.RowKit Go.Lib Go.Maps Dk Pl
def QO1(F:Nat->Prop)(a:Nat)(d:D)(w:World):Exit->Act->World->Prop
 | .normal,a',w'=>a'.defers=[]/\a'.tmps.size=118/\a'.tmps[0]?=some (l7 a)/\a'.tmps[2]?=some (.pointer none)/\a'.tmps[3]?=some .nilIface/\∃mb g v y,a'.tmps[4]?=some (.pointer (some ⟨mb,0,none⟩))/\a'.tmps[5]?=some y/\w.heap.size<=mb/\
  j6 w' mb 125 #[.int .u64 g,v]/\o8 w' F a d.readMan.2.2/\Chg F F w w'/\
  ((d.readMan.1=none/\d.readMan.2.1≠.ok/\Held w' F (fun W=>Y4 W y d.readMan.2.1))\/(∃gen ids,d.readMan.1=some (gen,ids)/\d.readMan.2.1=.ok/\g=(gen:Int)/\y=.nilIface/\OwnI w' w.heap.size v ids))
 | _,_,_=>False
noncomputable def G7(n:Nat):Code:=Code.head (D8 n)
def QO0(a:Nat)(w:World):Exit->Act->World->Prop
 | .normal,a',w'=>a'.defers=[]/\a'.tmps.size=118/\a'.tmps[0]?=some (l7 a)/\a'.tmps[2]?=some (.pointer none)/\a'.tmps[3]?=some .nilIface/\w'=w
 | _,_,_=>False
theorem c1r(x:Nat->Value)(a:Nat)(w:World):(G7 0).wp Tryz.prog (QO0 a w) ⟨#[l7 a,x 1,x 2,x 3,x 4,x 5,x 6,x 7,x 8,x 9,x 10,x 11,x 12,x 13,x 14,x 15,x 16,x 17,x 18,x 19,x 20,x 21,x 22,x 23,x 24,x 25,x 26,x 27,x 28,x 29,x 30,x 31,x 32,x 33,x 34,x 35,x 36,x 37,x 38,x 39,x 40,x 41,x 42,x 43,x 44,x 45,x 46,x 47,x 48,x 49,x 50,x 51,x 52,x 53,x 54,x 55,x 56,x 57,x 58,x 59,x 60,x 61,x 62,x 63,x 64,x 65,x 66,x 67,x 68,x 69,x 70,x 71,x 72,x 73,x 74,x 75,x 76,x 77,x 78,x 79,x 80,x 81,x 82,x 83,x 84,x 85,x 86,x 87,x 88,x 89,x 90,x 91,x 92,x 93,x 94,x 95,x 96,x 97,x 98,x 99,x 100,x 101,x 102,x 103,x 104,x 105,x 106,x 107,x 108,x 109,x 110,x 111,x 112,x 113,x 114,x 115,x 116,x 117],[]⟩ w:=by
 unfold G7 D8;simp only[Code.behind,Code.head,Tryz.f14,Option.getD_some];go_wp2;exact⟨rfl,rfl,rfl,rfl,rfl,rfl⟩
theorem c1s(x:Nat->Value)(F:Nat->Prop)(a:Nat)(d:D)(w:World)(h:o8 w F a d)(hds:∀x∈d.ids,(d.node x).data.length<=35184372088832):
 (G7 1).wp Tryz.prog (QO1 F a d w) ⟨#[l7 a,x 1,.pointer none,.nilIface,x 4,x 5,x 6,x 7,x 8,x 9,x 10,x 11,x 12,x 13,x 14,x 15,x 16,x 17,x 18,x 19,x 20,x 21,x 22,x 23,x 24,x 25,x 26,x 27,x 28,x 29,x 30,x 31,x 32,x 33,x 34,x 35,x 36,x 37,x 38,x 39,x 40,x 41,x 42,x 43,x 44,x 45,x 46,x 47,x 48,x 49,x 50,x 51,x 52,x 53,x 54,x 55,x 56,x 57,x 58,x 59,x 60,x 61,x 62,x 63,x 64,x 65,x 66,x 67,x 68,x 69,x 70,x 71,x 72,x 73,x 74,x 75,x 76,x 77,x 78,x 79,x 80,x 81,x 82,x 83,x 84,x 85,x 86,x 87,x 88,x 89,x 90,x 91,x 92,x 93,x 94,x 95,x 96,x 97,x 98,x 99,x 100,x 101,x 102,x 103,x 104,x 105,x 106,x 107,x 108,x 109,x 110,x 111,x 112,x 113,x 114,x 115,x 116,x 117],[]⟩ w:=by
 have hrm:=b03 F a d w h hds;have HRM:=Lib.hid hrm;clear hrm;unfold G7 D8;unfold l7 at *;simp only[Code.behind,Code.head,Tryz.f14,Option.getD_some];go_wp2_with fail
 refine HRM.out.mono ?_;rintro e w1 ⟨g,v,y,rfl,hD,hC,hcase⟩;obtain⟨ia,ik,ic,rfl⟩:∃ia ik ic,v=.slice ia ik ic:=by
  rcases hcase with⟨_,_,h,_⟩|⟨_,_,_,_,_,_,h⟩
  ·exact⟨_,_,_,h⟩
  ·obtain⟨x,y,h⟩:=ownsRow_form h;exact⟨_,_,_,h⟩
 have HD:=Lib.hid hD;have HC:=Lib.hid hC;have HK:=Lib.hid hcase;clear hD hC hcase h;go_wp2;have hE:Ext w1 (w1.alloc (.cells #[.int .u64 g,.slice ia ik ic] 125)):=(Ext.refl w1).new _;refine⟨rfl,rfl,rfl,rfl,rfl,w1.heap.size,g,.slice ia ik ic,y,rfl,rfl,HC.out.size,j6.new _ _ rfl,HD.out.ext hE,HC.out.trans (Chg.ext hE),?_⟩;rcases HK.out with⟨h1,h2,h3,h4,h5⟩|⟨gen,ids,h1,h2,h3,h4,h5⟩
 ·exact .inl ⟨h1,h4,h5.ext hE⟩
 ·exact .inr ⟨gen,ids,h1,h2,h3,h4,Dep.row h5 _ fun b hb=>hE.block b (a7Y h5 hb)⟩
end
section
open Go.RowKit Go.Lib Go.Maps Dk Pl
theorem b3E:(Tryz.prog.info? 25).map (fun i=>(i.zero,i.size,i.bytes))=some (some (.slice none 0 0),1,24):=by kernel_rfl
theorem b87(z:Value)(n:Nat):madeCells #[z] n=(List.replicate n z).toArray:=by
 apply Array.ext
 ·simp[madeCells]
 ·intro i h1 h2;simp[madeCells,Nat.mod_one]
def QO3(a mb:Nat)(n:Nat)(w:World):Exit->Act->World->Prop
 | .normal,a',w'=>a'.defers=[]/\a'.tmps.size=118/\a'.tmps[0]?=some (l7 a)/\a'.tmps[4]?=some (.pointer (some ⟨mb,0,none⟩))/\Ext w w'/\∃fb rb,a'.tmps[6]?=some (.pointer (some ⟨fb,0,none⟩))/\w.heap.size<=fb/\w.heap.size<=rb/\
  j6 w' fb 128 #[.slice (some ⟨rb,0,none⟩) n n]/\w'.heap[rb]?=some (.cells (List.replicate n (Value.slice none 0 0)).toArray 25)
 | _,_,_=>False
theorem c1t(x:Nat->Value)(a mb:Nat)(g:Int)(v:Value)(ids:List Int)(w:World)(hb:j6 w mb 125 #[.int .u64 g,v])(hv:∃B,OwnI w B v ids)(hn:ids.length<=60):
 (G7 3).wp Tryz.prog (QO3 a mb ids.length w) ⟨#[l7 a,x 1,x 2,x 3,.pointer (some ⟨mb,0,none⟩),x 5,x 6,x 7,x 8,x 9,x 10,x 11,x 12,x 13,x 14,x 15,x 16,x 17,x 18,x 19,x 20,x 21,x 22,x 23,x 24,x 25,x 26,x 27,x 28,x 29,x 30,x 31,x 32,x 33,x 34,x 35,x 36,x 37,x 38,x 39,x 40,x 41,x 42,x 43,x 44,x 45,x 46,x 47,x 48,x 49,x 50,x 51,x 52,x 53,x 54,x 55,x 56,x 57,x 58,x 59,x 60,x 61,x 62,x 63,x 64,x 65,x 66,x 67,x 68,x 69,x 70,x 71,x 72,x 73,x 74,x 75,x 76,x 77,x 78,x 79,x 80,x 81,x 82,x 83,x 84,x 85,x 86,x 87,x 88,x 89,x 90,x 91,x 92,x 93,x 94,x 95,x 96,x 97,x 98,x 99,x 100,x 101,x 102,x 103,x 104,x 105,x 106,x 107,x 108,x 109,x 110,x 111,x 112,x 113,x 114,x 115,x 116,x 117],[]⟩ w:=by
 obtain⟨B,hv⟩:=hv;obtain⟨ia,ic,rfl⟩:=ownsRow_form hv;have hmk:=run_make_row' (P:=Tryz.prog) 128 25 (.slice none 0 0) 24 Tryz.underlying128 b3E rfl .i64 .i64 ids.length (by omega) (by omega) w;have c1:=(hb.cell 1).trans (show _=some (Value.slice ia ids.length ic) from rfl);unfold G7 D8 l7 at *;simp only[Code.behind,Code.head,Tryz.f14,Option.getD_some];go_wp2;have hE1:Ext w (w.alloc (.cells (madeCells #[.slice none 0 0] ids.length) 25)):=(Ext.refl w).new _;have hE2:Ext (w.alloc (.cells (madeCells #[.slice none 0 0] ids.length) 25)) ((w.alloc (.cells (madeCells #[.slice none 0 0] ids.length) 25)).alloc (.cells #[.slice (some ⟨w.heap.size,0,none⟩) ids.length ids.length] 128)):=(Ext.refl _).new _;refine⟨rfl,rfl,rfl,rfl,Ext.trans hE1 hE2,w.heap.size+1,w.heap.size,by rfl,by omega,Nat.le_refl _,?_,?_⟩
 ·show(World.heap _)[_]?=_;rw[show w.heap.size+1=(w.alloc (.cells (madeCells #[.slice none 0 0] ids.length) 25)).heap.size from(Array.size_push ..).symm];exact Array.getElem?_push_size
 ·rw[b87];show((w.heap.push _).push _)[w.heap.size]?=_;rw[Array.getElem?_push_lt (by simp),Array.getElem_push_eq]
end
section
open Dk
def Dk.D.opensAcc:List Int->D->List (List UInt8)->List (List UInt8)×Er×D
 | [],d,acc=>(acc,.ok,d)
 | id::ids,d,acc=>match d.whole (C8 H5 id.toNat) with
  | (b,.ok,d1)=>D.opensAcc ids d1 (acc++[b])
  | (_,e,d1)=>(acc,if e.code=11 then .file 7 (C8 H5 id.toNat) else e,d1)
theorem a3o{id:Int}{ids:List Int}{d d1:D}{acc:List (List UInt8)}{b:List UInt8}(h:d.whole (C8 H5 id.toNat)=(b,.ok,d1)):D.opensAcc (id::ids) d acc=D.opensAcc ids d1 (acc++[b]):=by
 show(match d.whole (C8 H5 id.toNat) with|(b,.ok,d1)=>D.opensAcc ids d1 (acc++[b])|(_,e,d1)=>(acc,if e.code=11 then .file 7 (C8 H5 id.toNat) else e,d1))=_;rw[h]
theorem a1d{id:Int}{ids:List Int}{d d1:D}{acc:List (List UInt8)}{b:List UInt8}{e:Er}(h:d.whole (C8 H5 id.toNat)=(b,e,d1))(he:e≠.ok):D.opensAcc (id::ids) d acc=(acc,if e.code=11 then .file 7 (C8 H5 id.toNat) else e,d1):=by
 show(match d.whole (C8 H5 id.toNat) with|(b,.ok,d1)=>D.opensAcc ids d1 (acc++[b])|(_,e,d1)=>(acc,if e.code=11 then .file 7 (C8 H5 id.toNat) else e,d1))=_;rw[h]
 cases e with
 | ok=>exact absurd rfl he
 | num n=>rfl
 | file n m=>rfl
structure a1R(d d':D):Prop where
 now:d'.now=d.now
 safe:d'.safe=d.safe
 moves:d'.moves=d.moves
 room:d'.room=d.room
 ids:d'.ids=d.ids
 node:d'.node=d.node
theorem a1R.refl(d:D):a1R d d:=⟨rfl,rfl,rfl,rfl,rfl,rfl⟩
theorem a1R.trans{a b c:D}(h:a1R a b)(k:a1R b c):a1R a c:=⟨k.now.trans h.now,k.safe.trans h.safe,k.moves.trans h.moves,k.room.trans h.room,k.ids.trans h.ids,k.node.trans h.node⟩
theorem Dk.D.fails_same(d:D):a1R d d.fails.2:=let ⟨h1,h2,h3,h4,h5,h6⟩:=d.fails_now;⟨h1,h2,h3,h4,h5,h6⟩
theorem Dk.D.find_same(d:D)(n:Nm):a1R d (d.find n).2.2:=by
 unfold D.find;split
 ·exact d.fails_same
 ·cases q9 d.now n<;>exact d.fails_same
theorem Dk.D.size_same(d:D)(n:Nm):a1R d (d.size n).2.2:=by
 have h:=d.find_same n;unfold D.size;obtain⟨⟨o,e,d1⟩,hr⟩:∃r,d.find n=r:=⟨_,rfl⟩;rw[hr] at h⊢;cases o<;>exact h
theorem Dk.D.readAt_same(d:D)(n:Nm)(i k:Int):a1R d (d.readAt n i k).2.2:=by
 have h:=d.find_same n;unfold D.readAt;obtain⟨⟨o,e,d1⟩,hr⟩:∃r,d.find n=r:=⟨_,rfl⟩;rw[hr] at h⊢;cases o<;>exact h
theorem Dk.D.whole_same(d:D)(n:Nm):a1R d (d.whole n).2.2:=by
 have h:=d.size_same n;unfold D.whole;obtain⟨⟨k,e,d1⟩,hr⟩:∃r,d.size n=r:=⟨_,rfl⟩;rw[hr] at h⊢
 cases e with
 | ok=>exact h.trans (d1.readAt_same n 0 k)
 | num n=>exact h
 | file n m=>exact h
theorem Dk.D.readMan_same(d:D):a1R d d.readMan.2.2:=by
 have h:=d.whole_same F5;unfold D.readMan;obtain⟨⟨k,e,d1⟩,hr⟩:∃r,d.whole F5=r:=⟨_,rfl⟩;rw[hr] at h⊢
 cases e with
 | ok=>dsimp only;cases Go.Proofs.YtgpbhjjajpbeeaaGreatDoor.readMan k<;>exact h
 | num n=>exact h
 | file n m=>exact h
end
section
open Go.RowKit Go.Lib Go.Maps Dk Pl
end
section
open Go.RowKit Go.Lib Go.Maps Dk Pl
theorem a2E.ext{w w':World}{v:Value}{l:Fl}(h:a2E w v l)(hE:Ext w w'):a2E w' v l:=by
 obtain⟨a,cap,rows,rfl,h1,h2,h3,h4,h5⟩:=h;refine⟨a,cap,rows,rfl,h1,h2,h3,fun i p hp=>?_,fun i p q hp hq=>⟨(h5 i p q hp hq).1,(h5 i p q hp hq).2.ext hE⟩⟩;obtain⟨g,hg,c0,c1⟩:=h4 i p hp;exact⟨g,hg,hE.cell c0,hE.cell c1⟩
def c4J(w:World)(b:Nat)(ids:List Int):Prop:=
 ∃(gen:Int)(a:Option Addr)(cap:Nat),j6 w b 50 #[.int .u64 gen,.slice a ids.length cap]/\ids.length<=cap/\cap<=9223372036854775807/\
  ∀(i:Nat)x,ids[i]?=some x->∃g,a=some ⟨g,0,none⟩/\w.cell? ⟨g,i*3,none⟩=some (.int .i64 x)
def a6O(ids:List Int):Prop:=ids.length<=60/\∀x∈ids,1<=x/\x<=999999
end
section
open Go.RowKit Go.Lib Go.Maps Dk Pl
theorem b6w(kind:Nm)(k:Nat):(C8 kind k).length=kind.length+6:=by simp[C8]
structure a7j(w0 w:World)(rb n:Nat)(vs:List Value)(bs:List (List UInt8)):Prop where
 len:vs.length=bs.length
 le:bs.length<=n
 row:w.heap[rb]?=some (.cells (vs++List.replicate (n - bs.length) (Value.slice none 0 0)).toArray 25)
 at_:∀(j:Nat)(u:Value)(b:List UInt8),vs[j]?=some u->bs[j]?=some b->J8 w w0.heap.size u b/\a1P w u
theorem a7j.keep{w0 w w':World}{rb n:Nat}{vs:List Value}{bs:List (List UInt8)}(h:a7j w0 w rb n vs bs)(hr:w'.heap[rb]?=w.heap[rb]?)(hk:∀b,w0.heap.size<=b->b<w.heap.size->b≠rb->w'.heap[b]?=w.heap[b]?):a7j w0 w' rb n vs bs:=by
 refine⟨h.len,h.le,hr.trans h.row,fun j u b hu hb=>?_⟩;obtain⟨h1,h2⟩:=h.at_ j u b hu hb;have key:∀g,u.ownBlock=some g->w'.heap[g]?=w.heap[g]?:=fun g hg=>by
  have hl:=World.ownsRow.lt h1 g hg;by_cases e:g=rb
  ·rw[e];exact hr
  ·exact hk g hl.1 hl.2 e
 exact⟨Dep.row h1 w' key,h2.keep key⟩
theorem a7j.put{w0 w:World}{rb n:Nat}{vs:List Value}{bs:List (List UInt8)}{u:Value}{b:List UInt8}(h:a7j w0 w rb n vs bs)(hu:J8 w w0.heap.size u b)(hf:a1P w u)(hk:bs.length<n)(hrl:rb<w0.heap.size):a7j w0 (w.setCell ⟨rb,bs.length,none⟩ u) rb n (vs++[u]) (bs++[b]):=by
 have hO:=(Off.refl rb w).setCell bs.length u;have key:∀{v:Value}{l:List UInt8},J8 w w0.heap.size v l->a1P w v->J8 (w.setCell ⟨rb,bs.length,none⟩ u) w0.heap.size v l/\a1P (w.setCell ⟨rb,bs.length,none⟩ u) v:=fun h1 h2=>by
  have k:∀g,_=some g->(w.setCell ⟨rb,bs.length,none⟩ u).heap[g]?=w.heap[g]?:=fun g hg=>hO.block g fun e=>by have:=(World.ownsRow.lt h1 g hg).1;omega
  exact⟨Dep.row h1 _ k,h2.keep k⟩
 refine⟨by simp[h.len],by simp;omega,?_,fun j v l hv hl=>?_⟩
 ·have hr:=h.row;have e:(w.setCell ⟨rb,bs.length,none⟩ u).heap[rb]?=some (.cells ((vs++List.replicate (n - bs.length) (Value.slice none 0 0)).toArray.setIfInBounds bs.length u) 25):=by simp[World.setCell,Array.getElem?_modify,hr]
  rw[e];congr 2
  rw[List.setIfInBounds_toArray];congr 1
  rw[List.set_append_right _ _ (by rw[h.len];omega),h.len,Nat.sub_self];obtain⟨m,hm⟩:∃m,n - bs.length=m+1:=⟨n - bs.length - 1,by omega⟩;rw[hm,List.replicate_succ,List.set_cons_zero,List.append_assoc];have:n - (bs++[b]).length=m:=by simp;omega
  rw[this];rfl
 ·by_cases hj:j<bs.length
  ·rw[List.getElem?_append_left (by rw[h.len];exact hj)] at hv;rw[List.getElem?_append_left hj] at hl;obtain⟨h1,h2⟩:=h.at_ j v l hv hl;exact key h1 h2
  ·rw[List.getElem?_append_right (by rw[h.len];omega)] at hv;rw[List.getElem?_append_right (by omega)] at hl;rw[h.len] at hv;obtain⟨e,-⟩:=List.getElem?_eq_some_iff.1 hv;have hj0:j - bs.length=0:=by simp at e;omega
   rw[hj0] at hv hl;simp at hv hl;subst hv hl;exact key hu hf
def QO4(F:Nat->Prop)(a mb fb rb:Nat)(d:D)(ids:List Int)(w:World):Exit->Act->World->Prop
 | .normal,a',w'=>a'.defers=[]/\a'.tmps.size=118/\a'.tmps[0]?=some (l7 a)/\a'.tmps[4]?=some (.pointer (some ⟨mb,0,none⟩))/\a'.tmps[6]?=some (.pointer (some ⟨fb,0,none⟩))/\(D.opensAcc ids d []).2.1=.ok/\o8 w' F a (D.opensAcc ids d []).2.2/\
  Chg (fun b=>F b\/b=rb) (fun b=>F b\/b=rb) w w'/\∃vs,a7j w w' rb ids.length vs (D.opensAcc ids d []).1/\(D.opensAcc ids d []).1.length=ids.length
 | .ret,a',w'=>a'.defers=[]/\∃y,a'.tmps[2]?=some (.pointer none)/\a'.tmps[3]?=some y/\(D.opensAcc ids d []).2.1≠.ok/\o8 w' F a (D.opensAcc ids d []).2.2/\Chg (fun b=>F b\/b=rb) (fun b=>F b\/b=rb) w w'/\Held w' F (fun W=>Y4 W y (D.opensAcc ids d []).2.1)
 | _,_,_=>False
theorem b88{F:Nat->Prop}{rb:Nat}{w w':World}(h:Chg F F w w'):Chg (fun b=>F b\/b=rb) (fun b=>F b\/b=rb) w w':=
 ⟨h.os,h.tape,h.output,h.size,fun b hb hF=>h.block b hb fun h=>hF (.inl h),fun b h=>.inl h⟩
theorem c1u(x:Nat->Value)(F:Nat->Prop)(a mb fb rb:Nat)(g:Int)(ia:Option Addr)(ic:Nat)(d:D)(ids:List Int)(w:World)(h:o8 w F a d)(hds:∀x∈d.ids,(d.node x).data.length<=35184372088832)(hI:a6O ids)
 (hH:Held w (fun b=>F b\/b=rb) (fun W=>(j6 W mb 125 #[.int .u64 g,.slice ia ids.length ic]/\Ints W (.slice ia ids.length ic) ids)/\j6 W fb 128 #[.slice (some ⟨rb,0,none⟩) ids.length ids.length]/\a0G W))
 (hrb:w.heap[rb]?=some (.cells (List.replicate ids.length (Value.slice none 0 0)).toArray 25))(hrF:¬F rb):
 (G7 4).wp Tryz.prog (QO4 F a mb fb rb d ids w) ⟨#[l7 a,x 1,x 2,x 3,.pointer (some ⟨mb,0,none⟩),x 5,.pointer (some ⟨fb,0,none⟩),x 7,x 8,x 9,x 10,x 11,x 12,x 13,x 14,x 15,x 16,x 17,x 18,x 19,x 20,x 21,x 22,x 23,x 24,x 25,x 26,x 27,x 28,x 29,x 30,x 31,x 32,x 33,x 34,x 35,x 36,x 37,x 38,x 39,x 40,x 41,x 42,x 43,x 44,x 45,x 46,x 47,x 48,x 49,x 50,x 51,x 52,x 53,x 54,x 55,x 56,x 57,x 58,x 59,x 60,x 61,x 62,x 63,x 64,x 65,x 66,x 67,x 68,x 69,x 70,x 71,x 72,x 73,x 74,x 75,x 76,x 77,x 78,x 79,x 80,x 81,x 82,x 83,x 84,x 85,x 86,x 87,x 88,x 89,x 90,x 91,x 92,x 93,x 94,x 95,x 96,x 97,x 98,x 99,x 100,x 101,x 102,x 103,x 104,x 105,x 106,x 107,x 108,x 109,x 110,x 111,x 112,x 113,x 114,x 115,x 116,x 117],[]⟩ w:=by
 have hrl:rb<w.heap.size:=lt_of_block hrb;have c0:w.cell? ⟨mb,1,none⟩=some (.slice ia ids.length ic):=(hH.get.1.1.cell 1).trans rfl;have hlow:=h.low;have HH:=Lib.hid hH;have HD:=Lib.hid h;have HDS:=Lib.hid hds;have HI:=Lib.hid hI;have HRB:=Lib.hid hrb;have HLO:=Lib.hid hlow;have hn60:=hI.1;clear hH h hds hI hrb hlow;unfold G7 D8 l7 at *;simp only[Code.behind,Code.head,Tryz.f14,Option.getD_some];go_wp2;go_loopw [34] (fun i wr=>∃(k:Nat)(bs:List (List UInt8))(dk:D)(vs:List Value),i=.int .i64 k/\k<=ids.length/\bs.length=k/\D.opensAcc ids d []=D.opensAcc (ids.drop k) dk bs/\a1R d dk/\o8 wr F a dk/\
  Chg (fun b=>F b\/b=rb) (fun b=>F b\/b=rb) w wr/\a7j w wr rb ids.length vs bs) (fun i _=>ids.length - (intOf i).toNat)
 case atStart=>exact⟨0,[],d,[],rfl,by omega,rfl,rfl,.refl d,HD.out,.refl _ w,rfl,by simp,by simpa using HRB.out,fun j u b hu=>by simp at hu⟩
 case round=>
  obtain⟨k,bs,dk,vs,rfl,hk,hbs,hop,hsame,hDk,hCk,hrow⟩:=hrel;have hHr:=HH.out.step hCk;obtain⟨⟨hmb,hint⟩,hfb,hlaid⟩:=hHr.get;by_cases hlt:k<ids.length
  ·obtain⟨xb,rfl,xcell⟩:=Ints.at hint (Ext.refl wr) hlt;have hr:=HI.out.2 ids[k] (List.getElem_mem hlt);obtain⟨y,hy⟩:∃y:Nat,ids[k]=(y:Int):=⟨ids[k].toNat,by omega⟩;have hdrop:ids.drop k=ids[k]::ids.drop (k+1):=List.drop_eq_getElem_cons hlt;rw[hdrop] at hop;rw[hy] at xcell hr hop;have hnm:=a9X H5 y wr (by simp[H5]) (by omega) hlaid;have hsl:(C8 H5 y).length<=maxLen:=by rw[b6w];unfold H5 maxLen;simp
   have hdsk:∀z∈dk.ids,(dk.node z).data.length<=35184372088832:=fun z hz=>by rw[hsame.node];rw[hsame.ids] at hz;exact HDS.out z hz
   have HNM:=Lib.hid hnm;have HOP:=Lib.hid hop;have HDK:=Lib.hid hDk;have HCK:=Lib.hid hCk;have HROW:=Lib.hid hrow;have HSM:=Lib.hid hsame;have HDSK:=Lib.hid hdsk;have HHR:=Lib.hid hHr;have HBS:=Lib.hid hbs;have HSL:=Lib.hid hsl;clear hnm hop hDk hCk hrow hsame hdsk hHr hbs hsl hmb hint hfb hlaid hdrop;unfold strV H5 at HNM;go_wp2_with fail
   refine HNM.out.mono ?_;rintro e w1 ⟨rfl,hE1⟩;have hwh:=a92 F a dk (C8 H5 y) w1 (HDK.out.ext hE1) HSL.out HDSK.out;have hws:=D.whole_same dk (C8 H5 y);have hwe:=b2q dk (C8 H5 y);obtain⟨⟨b,er,d1⟩,hwr⟩:∃r,dk.whole (C8 H5 y)=r:=⟨_,rfl⟩;rw[hwr] at hwh hws hwe;have hC1:=HCK.out.trans (Chg.ext (F:=fun b=>F b\/b=rb) hE1);have HWH:=Lib.hid hwh;have HC1:=Lib.hid hC1;have HWR:=Lib.hid hwr;have HWS:=Lib.hid hws;have HE1:=Lib.hid hE1;clear hwh hC1 hwr hws hE1 HNM;unfold strV l7 H5 at HWH;go_wp2_with fail
   refine HWH.out.mono ?_;rintro e w2 ⟨u,v,rfl,hB,hv,hD2,hC2,hfl⟩;have his:=b82 er v 11 w2 hv.get (by omega);have hH2:Held w2 (fun b=>F b\/b=rb) _:=(HHR.out.ext HE1.out).step (b88 hC2);have hC12:=HC1.out.trans (b88 (rb:=rb) hC2);have hrow2:a7j w w2 rb ids.length vs bs:=by
    have hlo:=HLO.out;refine HROW.out.keep ?_ fun b h1 h2 h3=>?_
    ·exact(hC2.block rb (by have:=HC1.out.size;omega) hrF).trans (HE1.out.block rb (by have:=HCK.out.size;omega))
    ·exact(hC2.block b (by have:=HE1.out.size;omega) fun h=>by have:=hlo b h;omega).trans (HE1.out.block b h2)
   have hB2:J8 w2 w.heap.size u b:=I6 hB HC1.out.size;have HIS:=Lib.hid his;have HH2:=Lib.hid hH2;have HC2:=Lib.hid hC12;have HROW2:=Lib.hid hrow2;have HB:=Lib.hid hB2;have HFL:=Lib.hid hfl;have HV:=Lib.hid hv;have HD2:=Lib.hid hD2;clear his hH2 hC2 hC12 hrow2 hB hB2 hfl hv hD2 HWH HROW HHR HE1;unfold Q6 at HIS;obtain⟨ua,uc,rfl⟩:=ownsRow_form HB.out
   cases er with
   | ok=>
    obtain rfl:v=.nilIface:=HV.out.get;have hrw:=HROW2.out.row;have hbk:=HBS.out;have hfb2:=(HH2.out.get.2.1.cell 0).trans (show _=some (Value.slice (some ⟨rb,0,none⟩) ids.length ids.length) from rfl);have hcell:w2.cell? ⟨rb,k,none⟩=some (.slice none 0 0):=by
     simp only[World.cell?,hrw,Option.isSome_none,Bool.false_eq_true,if_false,List.getElem?_toArray];rw[List.getElem?_append_right (by rw[HROW2.out.len];omega),List.getElem?_replicate_of_lt (by rw[HROW2.out.len];omega)]
    have hfrz:w2.frozen? ⟨rb,k,none⟩=false:=by simp[World.frozen?,hrw]
    have hklt:(k:Int)<(ids.length:Int):=by omega
    have hd:decide (Er.code .ok=11)=false:=rfl;rw[hd] at HIS;clear hd hwe;go_wp2_with fail
    refine HIS.out.mono ?_;rintro e w3 ⟨rfl,rfl⟩;go_wp2;go_roundw
    case rel=>
     have hset:=HROW2.out.put HB.out HFL.out (by omega) hrl;rw[hbk] at hset;have hOff:=(Off.refl rb w3).setCell k (.slice ua b.length uc);refine⟨k+1,bs++[b],d1,vs++[.slice ua b.length uc],by go_num,by omega,by simp[hbk],?_,HSM.out.trans HWS.out,?_,?_,hset⟩
     ·rw[HOP.out];exact a3o (by rw[Int.toNat_natCast];exact HWR.out)
     ·exact HD2.out.frame (fun b hb=>hOff.block b fun e=>hrF (e▸hb)) (Nat.le_of_eq hOff.size.symm)
     ·exact HC2.out.trans (Chg.off hOff (.inr rfl))
    case measure=>simp[intOf];omega
   | num m=>rcases hwe with h|⟨_,h⟩<;>cases h
   | file m nm=>
    obtain⟨fbx,hvb,hfbb,hfbF⟩:=a94 HV.out;subst hvb;by_cases hm:m=11
    ·subst hm;have hd:decide (Er.code (.file 11 nm)=11)=true:=rfl;rw[hd] at HIS;have hnm2:=a9X H5 y w2 (by simp[H5]) (by omega) HH2.out.get.2.2;have hres:D.opensAcc ids d []=(bs,.file 7 (C8 H5 y),d1):=by
      rw[HOP.out,a1d (e:=.file 11 nm) (b:=b) (d1:=d1) (by rw[Int.toNat_natCast];exact HWR.out) (by simp)];simp[Er.code,Int.toNat_natCast]
     have HNM2:=Lib.hid hnm2;have HRS:=Lib.hid hres;clear hd hwe hnm2 hres;unfold strV H5 at HNM2;go_wp2_with fail
     refine HIS.out.mono ?_;rintro e w3 ⟨rfl,rfl⟩;go_wp2_with fail
     refine HNM2.out.mono ?_;rintro e w4 ⟨rfl,hE4⟩;have hD4:=HD2.out.ext hE4;have hC4:=HC2.out.trans (Chg.ext hE4);have hlow4:=hD4.low;have HD4:=Lib.hid hD4;have HC4:=Lib.hid hC4;have HL4:=Lib.hid hlow4;clear hD4 hC4 hlow4 hE4;go_wp2;have hE5:Ext w4 (w4.alloc (.cells #[strV (C8 H5 y),.int .i64 7] 134)):=(Ext.refl w4).new _;refine⟨rfl,_,rfl,rfl,?_,?_,?_,?_⟩
     ·rw[HRS.out];simp
     ·rw[HRS.out];exact HD4.out.ext hE5
     ·exact HC4.out.trans (Chg.ext hE5)
     ·rw[HRS.out];exact a01 HL4.out
    ·have hd:decide (Er.code (.file m nm)=11)=false:=decide_eq_false hm;rw[hd] at HIS;have hres:D.opensAcc ids d []=(bs,.file m nm,d1):=by
      rw[HOP.out,a1d (e:=.file m nm) (b:=b) (d1:=d1) (by rw[Int.toNat_natCast];exact HWR.out) (by simp)];simp[Er.code,hm]
     have hH5:Held w2 F (fun W=>Y4 W (.iface 132 (.pointer (some ⟨fbx,0,none⟩))) (.file m nm)):=HV.out;have HRS:=Lib.hid hres;have HH5:=Lib.hid hH5;clear hd hwe hres hH5 hfbb hfbF HV;go_wp2_with fail
     refine HIS.out.mono ?_;rintro e w3 ⟨rfl,rfl⟩;go_wp2;refine⟨rfl,_,rfl,rfl,?_,?_,?_,?_⟩
     ·rw[HRS.out];simp
     ·rw[HRS.out];exact HD2.out
     ·exact HC2.out
     ·rw[HRS.out];exact HH5.out
  ·obtain rfl:k=ids.length:=by omega
   have hres:D.opensAcc ids d []=(bs,.ok,dk):=by
    rw[hop,List.drop_length];rfl
   have HDK:=Lib.hid hDk;have HCK:=Lib.hid hCk;have HROW:=Lib.hid hrow;have HRS:=Lib.hid hres;have HBS:=Lib.hid hbs;clear hDk hCk hrow hres hop hsame hHr hmb hint hfb hlaid hbs;go_wp2;refine⟨rfl,rfl,rfl,rfl,rfl,?_,?_,HCK.out,vs,?_,?_⟩
   ·rw[HRS.out]
   ·rw[HRS.out];exact HDK.out
   ·rw[HRS.out];exact HROW.out
   ·rw[HRS.out];exact HBS.out
end
section
open Go.RowKit Go.Lib Go.Maps Dk Pl
theorem b0Y:(Tryz.prog.info? 154).map (fun i=>(i.zero,i.size,i.bytes))=some (some (.agg #[.int .i64 0,.slice none 0 0]),2,32):=by kernel_rfl
def QO5(a mb fb n:Nat)(g:Int)(v:Value)(w:World):Exit->Act->World->Prop
 | .normal,a',w'=>a'.defers=[]/\a'.tmps.size=118/\a'.tmps[4]?=some (.pointer (some ⟨mb,0,none⟩))/\a'.tmps[6]?=some (.pointer (some ⟨fb,0,none⟩))/\Ext w w'/\∃sx sb Cb,a'.tmps[11]?=some (.pointer (some ⟨sx,0,none⟩))/\w.heap.size<=sx/\w.heap.size<=sb/\w.heap.size<=Cb/\sb≠Cb/\sx≠Cb/\sx≠sb/\
  j6 w' sx 32 #[.pointer (some ⟨sb,0,none⟩)]/\j6 w' sb 138 #[l7 a,.int .u64 g,v,.slice (some ⟨Cb,0,none⟩) n n,.map none,.int .i64 0]/\w'.heap[Cb]?=some (.cells (madeCells #[.int .i64 0,.slice none 0 0] (n*2)) 154)
 | _,_,_=>False
theorem three(w:World)(o1 o2 o3:Obj):(((w.alloc o1).alloc o2).alloc o3).drew.heap[w.heap.size]?=some o1/\(((w.alloc o1).alloc o2).alloc o3).drew.heap[w.heap.size+1]?=some o2/\(((w.alloc o1).alloc o2).alloc o3).drew.heap[w.heap.size+1+1]?=some o3/\Ext w (((w.alloc o1).alloc o2).alloc o3).drew:=by
 have h1:(((w.alloc o1).alloc o2).alloc o3).drew.heap=((w.heap.push o1).push o2).push o3:=rfl;refine⟨?_,?_,?_,?_⟩
 ·rw[h1,Array.getElem?_push_lt (by simp;omega),Array.getElem_push_lt (by simp),Array.getElem_push_eq]
 ·have e:w.heap.size+1=(w.heap.push o1).size:=(Array.size_push ..).symm;rw[h1,e,Array.getElem?_push,if_neg (by rw[Array.size_push (xs:=w.heap.push o1)];omega)];exact Array.getElem?_push_size
 ·rw[h1];have e:w.heap.size+1+1=((w.heap.push o1).push o2).size:=by rw[Array.size_push,Array.size_push]
  rw[e];exact Array.getElem?_push_size
 ·exact Below.drew ((((Ext.refl w).new o1).new o2).new o3)
theorem c1v(x:Nat->Value)(a mb fb:Nat)(g:Int)(ia:Option Addr)(n ic:Nat)(w:World)(hb:j6 w mb 125 #[.int .u64 g,.slice ia n ic])(hn:n<=60):
 (G7 5).wp Tryz.prog (QO5 a mb fb n g (.slice ia n ic) w) ⟨#[l7 a,x 1,x 2,x 3,.pointer (some ⟨mb,0,none⟩),x 5,.pointer (some ⟨fb,0,none⟩),x 7,x 8,x 9,x 10,x 11,x 12,x 13,x 14,x 15,x 16,x 17,x 18,x 19,x 20,x 21,x 22,x 23,x 24,x 25,x 26,x 27,x 28,x 29,x 30,x 31,x 32,x 33,x 34,x 35,x 36,x 37,x 38,x 39,x 40,x 41,x 42,x 43,x 44,x 45,x 46,x 47,x 48,x 49,x 50,x 51,x 52,x 53,x 54,x 55,x 56,x 57,x 58,x 59,x 60,x 61,x 62,x 63,x 64,x 65,x 66,x 67,x 68,x 69,x 70,x 71,x 72,x 73,x 74,x 75,x 76,x 77,x 78,x 79,x 80,x 81,x 82,x 83,x 84,x 85,x 86,x 87,x 88,x 89,x 90,x 91,x 92,x 93,x 94,x 95,x 96,x 97,x 98,x 99,x 100,x 101,x 102,x 103,x 104,x 105,x 106,x 107,x 108,x 109,x 110,x 111,x 112,x 113,x 114,x 115,x 116,x 117],[]⟩ w:=by
 obtain⟨i0,hi,hz0,hz1,hz2⟩:=info_parts b0Y;have hmk:∀w:World,(Instr.makeSlice 135 (.int .i64 n) (.int .i64 n)).run Tryz.prog w=.ok (.slice (some ⟨w.heap.size,0,none⟩) n n) (w.alloc (.cells (madeCells #[.int .i64 0,.slice none 0 0] (n*2)) 154)):=fun w=>by
  have:=run_make (P:=Tryz.prog) w 135 154 i0 _ Tryz.underlying135 hi hz0 .i64 .i64 n n (by omega) (by omega) (by rw[hz2];omega) (by omega);rw[hz1] at this;exact this
 have d0:w.drew.cell? ⟨mb,0,none⟩=some (.int .u64 g):=(hb.cell 0).trans rfl;have d1:w.drew.cell? ⟨mb,1,none⟩=some (.slice ia n ic):=(hb.cell 1).trans rfl;have hl:mb<w.heap.size:=hb.lt;have hsz:w.drew.heap.size=w.heap.size:=rfl;have e0:∀o,(w.drew.alloc o).cell? ⟨mb,0,none⟩=some (.int .u64 g):=fun o=>(World.cell?_alloc_lt _ _ _ hl).trans d0;have e1:∀o,(w.drew.alloc o).cell? ⟨mb,1,none⟩=some (.slice ia n ic):=fun o=>(World.cell?_alloc_lt _ _ _ hl).trans d1;have c0:w.cell? ⟨mb,0,none⟩=some (.int .u64 g):=(hb.cell 0).trans rfl;have c1:w.cell? ⟨mb,1,none⟩=some (.slice ia n ic):=(hb.cell 1).trans rfl;have f0:∀o,(w.alloc o).drew.cell? ⟨mb,0,none⟩=some (.int .u64 g):=fun o=>(World.cell?_alloc_lt _ _ _ hl).trans c0;have f1:∀o,(w.alloc o).drew.cell? ⟨mb,1,none⟩=some (.slice ia n ic):=fun o=>(World.cell?_alloc_lt _ _ _ hl).trans c1;unfold G7 D8 l7 at *;simp only[Code.behind,Code.head,Tryz.f14,Option.getD_some];go_region
 ·exact⟨rfl,rfl,rfl,rfl,(three w _ _ _).2.2.2,w.heap.size+1+1,w.heap.size+1,w.heap.size,rfl,by omega,by omega,by omega,by omega,by omega,by omega,(three w _ _ _).2.2.1,(three w _ _ _).2.1,(three w _ _ _).1⟩
 ·exact⟨rfl,rfl,rfl,rfl,(three w _ _ _).2.2.2,w.heap.size+1,w.heap.size+1+1,w.heap.size,rfl,by omega,by omega,by omega,by omega,by omega,by omega,(three w _ _ _).2.1,(three w _ _ _).2.2.1,(three w _ _ _).1⟩
 ·exact⟨rfl,rfl,rfl,rfl,(three w _ _ _).2.2.2,w.heap.size,w.heap.size+1+1,w.heap.size+1,rfl,by omega,by omega,by omega,by omega,by omega,by omega,(three w _ _ _).1,(three w _ _ _).2.2.1,(three w _ _ _).2.1⟩
end
end Go.Proofs.YtgpbhjjajpbeeaaGreatDoor
