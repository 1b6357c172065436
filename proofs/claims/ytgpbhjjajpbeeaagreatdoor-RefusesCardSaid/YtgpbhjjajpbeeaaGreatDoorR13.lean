/- A part of what the last file proves. -/
import Derived.Test.YtgpbhjjajpbeeaaGreatDoorR12
import Derived.Conc.AtomicLaws
set_option linter.all false
set_option maxRecDepth 100000
set_option maxHeartbeats 6400000
namespace Go.Proofs.YtgpbhjjajpbeeaaGreatDoor
section
open Go.RowKit Go.Lib Go.Maps Dk Pl
theorem b6r(kind:Nm)(k:Nat):(G5 kind k).length=kind.length+6:=by simp[G5]
structure a7z(w0 w:World)(rb n:Nat)(vs:List Value)(bs:List (List UInt8)):Prop where
 len:vs.length=bs.length
 le:bs.length<=n
 row:w.heap[rb]?=some (.cells (vs++List.replicate (n - bs.length) (Value.slice none 0 0)).toArray 25)
 at_:∀(j:Nat)(u:Value)(b:List UInt8),vs[j]?=some u->bs[j]?=some b->OwnB w w0.heap.size u b/\a18 w u
theorem a7z.keep{w0 w w':World}{rb n:Nat}{vs:List Value}{bs:List (List UInt8)}(h:a7z w0 w rb n vs bs)(hr:w'.heap[rb]?=w.heap[rb]?)(hk:∀b,w0.heap.size<=b->b<w.heap.size->b≠rb->w'.heap[b]?=w.heap[b]?):a7z w0 w' rb n vs bs:=by
 refine⟨h.len,h.le,hr.trans h.row,fun j u b hu hb=>?_⟩;obtain⟨h1,h2⟩:=h.at_ j u b hu hb;have key:∀g,u.ownBlock=some g->w'.heap[g]?=w.heap[g]?:=fun g hg=>by
  have hl:=World.ownsRow.lt h1 g hg;by_cases e:g=rb
  ·rw[e];exact hr
  ·exact hk g hl.1 hl.2 e
 exact⟨Dep.row h1 w' key,h2.keep key⟩
theorem a7z.put{w0 w:World}{rb n:Nat}{vs:List Value}{bs:List (List UInt8)}{u:Value}{b:List UInt8}(h:a7z w0 w rb n vs bs)(hu:OwnB w w0.heap.size u b)(hf:a18 w u)(hk:bs.length<n)(hrl:rb<w0.heap.size):a7z w0 (w.setCell ⟨rb,bs.length,none⟩ u) rb n (vs++[u]) (bs++[b]):=by
 have hO:=(Off.refl rb w).setCell bs.length u;have key:∀{v:Value}{l:List UInt8},OwnB w w0.heap.size v l->a18 w v->OwnB (w.setCell ⟨rb,bs.length,none⟩ u) w0.heap.size v l/\a18 (w.setCell ⟨rb,bs.length,none⟩ u) v:=fun h1 h2=>by
  have k:∀g,_=some g->(w.setCell ⟨rb,bs.length,none⟩ u).heap[g]?=w.heap[g]?:=fun g hg=>hO.block g fun e=>by have:=(World.ownsRow.lt h1 g hg).1;omega
  exact⟨Dep.row h1 _ k,h2.keep k⟩
 refine⟨by simp[h.len],by simp;omega,?_,fun j v l hv hl=>?_⟩
 ·have hr:=h.row;have e:(w.setCell ⟨rb,bs.length,none⟩ u).heap[rb]?=some (.cells ((vs++List.replicate (n - bs.length) (Value.slice none 0 0)).toArray.setIfInBounds bs.length u) 25):=by simp[World.setCell,Array.getElem?_modify,hr]
  rw[e];congr 2
  rw[List.setIfInBounds_toArray];congr 1
  rw[List.set_append_right _ _ (by rw[h.len];omega),h.len,Nat.sub_self];obtain⟨m,hm⟩:∃m,n - bs.length=m+1:=⟨n - bs.length - 1,by omega⟩;rw[hm,List.replicate_succ,List.set_cons_zero,List.append_assoc];have:n - (bs++[b]).length=m:=by simp;omega
  rw[this];rfl
 ·by_cases hj:j<bs.length
  ·rw[List.getElem?_append_left (by rw[h.len];exact hj)] at hv;rw[List.getElem?_append_left hj] at hl;obtain⟨h1,h2⟩:=h.at_ j v l hv hl;exact key h1 h2
  ·rw[List.getElem?_append_right (by rw[h.len];omega)] at hv;rw[List.getElem?_append_right (by omega)] at hl;rw[h.len] at hv;obtain⟨e,-⟩:=List.getElem?_eq_some_iff.1 hv;have hj0:j - bs.length=0:=by simp at e;omega
   rw[hj0] at hv hl;simp at hv hl;subst hv hl;exact key hu hf
def QO4(F:Nat->Prop)(a mb fb rb:Nat)(d:D)(ids:List Int)(w:World):Exit->Act->World->Prop
 | .normal,a',w'=>a'.defers=[]/\a'.tmps.size=118/\a'.tmps[0]?=some (y8 a)/\a'.tmps[4]?=some (.pointer (some ⟨mb,0,none⟩))/\a'.tmps[6]?=some (.pointer (some ⟨fb,0,none⟩))/\(D.opensAcc ids d []).2.1=.ok/\A8 w' F a (D.opensAcc ids d []).2.2/\
  Chg (fun b=>F b\/b=rb) (fun b=>F b\/b=rb) w w'/\∃vs,a7z w w' rb ids.length vs (D.opensAcc ids d []).1/\(D.opensAcc ids d []).1.length=ids.length
 | .ret,a',w'=>a'.defers=[]/\∃y,a'.tmps[2]?=some (.pointer none)/\a'.tmps[3]?=some y/\(D.opensAcc ids d []).2.1≠.ok/\A8 w' F a (D.opensAcc ids d []).2.2/\Chg (fun b=>F b\/b=rb) (fun b=>F b\/b=rb) w w'/\Held w' F (fun W=>ErrAt W y (D.opensAcc ids d []).2.1)
 | _,_,_=>False
theorem b8Z{F:Nat->Prop}{rb:Nat}{w w':World}(h:Chg F F w w'):Chg (fun b=>F b\/b=rb) (fun b=>F b\/b=rb) w w':=
 ⟨h.os,h.tape,h.output,h.size,fun b hb hF=>h.block b hb fun h=>hF (.inl h),fun b h=>.inl h⟩
theorem t4{a mb fb rb:Nat}(T:Array Value)(hT:T.size=118)(h0:T[0]?=some (y8 a))(h4:T[4]?=some (.pointer (some ⟨mb,0,none⟩)))(h6:T[6]?=some (.pointer (some ⟨fb,0,none⟩)))(F:Nat->Prop)(g:Int)(ia:Option Addr)(ic:Nat)(d:D)(ids:List Int)(w:World)(h:A8 w F a d)(hds:∀x∈d.ids,(d.node x).data.length<=35184372088832)(hI:b0z ids)
 (hH:Held w (fun b=>F b\/b=rb) (fun W=>(o7 W mb 125 #[.int .u64 g,.slice ia ids.length ic]/\Ints W (.slice ia ids.length ic) ids)/\o7 W fb 128 #[.slice (some ⟨rb,0,none⟩) ids.length ids.length]/\LaidP W))
 (hrb:w.heap[rb]?=some (.cells (List.replicate ids.length (Value.slice none 0 0)).toArray 25))(hrF:¬F rb):(N7 4).wp Tryz.prog (QO4 F a mb fb rb d ids w) ⟨T,[]⟩ w:=by
 rw[U0 (U0 (U0 (a1Y T hT) (k:=0) (G9 h0)) (k:=4) (G9 h4)) (k:=6) (G9 h6)];generalize (fun k=>T.getD k undef)=x;clear hT h0 h4 h6;have hrl:rb<w.heap.size:=lt_of_block hrb;have c0:w.cell? ⟨mb,1,none⟩=some (.slice ia ids.length ic):=(hH.get.1.1.cell 1).trans rfl;have hlow:=h.low;have HH:=Lib.hid hH;have HD:=Lib.hid h;have HDS:=Lib.hid hds;have HI:=Lib.hid hI;have HRB:=Lib.hid hrb;have HLO:=Lib.hid hlow;have hn60:=hI.1;clear hH h hds hI hrb hlow;unfold N7 I5 y8 at *;simp only[Code.behind,Code.head,Tryz.f14,Option.getD_some,a5Y,up,reduceIte,Nat.reduceEqDiff];go_wp2;go_loopw [34] (fun i wr=>∃(k:Nat)(bs:List (List UInt8))(dk:D)(vs:List Value),i=.int .i64 k/\k<=ids.length/\bs.length=k/\D.opensAcc ids d []=D.opensAcc (ids.drop k) dk bs/\a2p d dk/\A8 wr F a dk/\
  Chg (fun b=>F b\/b=rb) (fun b=>F b\/b=rb) w wr/\a7z w wr rb ids.length vs bs) (fun i _=>ids.length - (intOf i).toNat)
 case atStart=>exact⟨0,[],d,[],rfl,by omega,rfl,rfl,.refl d,HD.out,.refl _ w,rfl,by simp,by simpa using HRB.out,fun j u b hu=>by simp at hu⟩
 case round=>
  obtain⟨k,bs,dk,vs,rfl,hk,hbs,hop,hsame,hDk,hCk,hrow⟩:=hrel;have hHr:=HH.out.step hCk;obtain⟨⟨hmb,hint⟩,hfb,hlaid⟩:=hHr.get;by_cases hlt:k<ids.length
  ·obtain⟨xb,rfl,xcell⟩:=Ints.at hint (Ext.refl wr) hlt;have hr:=HI.out.2 ids[k] (List.getElem_mem hlt);obtain⟨y,hy⟩:∃y:Nat,ids[k]=(y:Int):=⟨ids[k].toNat,by omega⟩;have hdrop:ids.drop k=ids[k]::ids.drop (k+1):=List.drop_eq_getElem_cons hlt;rw[hdrop] at hop;rw[hy] at xcell hr hop;have hnm:=b0d J8 y wr (by simp[J8]) (by omega) hlaid;have hsl:(G5 J8 y).length<=maxLen:=by rw[b6r];unfold J8 maxLen;simp
   have hdsk:∀z∈dk.ids,(dk.node z).data.length<=35184372088832:=fun z hz=>by rw[hsame.node];rw[hsame.ids] at hz;exact HDS.out z hz
   have HNM:=Lib.hid hnm;have HOP:=Lib.hid hop;have HDK:=Lib.hid hDk;have HCK:=Lib.hid hCk;have HROW:=Lib.hid hrow;have HSM:=Lib.hid hsame;have HDSK:=Lib.hid hdsk;have HHR:=Lib.hid hHr;have HBS:=Lib.hid hbs;have HSL:=Lib.hid hsl;clear hnm hop hDk hCk hrow hsame hdsk hHr hbs hsl hmb hint hfb hlaid hdrop;unfold strV J8 at HNM;go_wp2_with fail
   refine HNM.out.mono ?_;rintro e w1 ⟨rfl,hE1⟩;have hwh:=b0g F a dk (G5 J8 y) w1 (HDK.out.ext hE1) HSL.out HDSK.out;have hws:=D.whole_same dk (G5 J8 y);have hwe:=b2C dk (G5 J8 y);obtain⟨⟨b,er,d1⟩,hwr⟩:∃r,dk.whole (G5 J8 y)=r:=⟨_,rfl⟩;rw[hwr] at hwh hws hwe;have hC1:=HCK.out.trans (Chg.ext (F:=fun b=>F b\/b=rb) hE1);have HWH:=Lib.hid hwh;have HC1:=Lib.hid hC1;have HWR:=Lib.hid hwr;have HWS:=Lib.hid hws;have HE1:=Lib.hid hE1;clear hwh hC1 hwr hws hE1 HNM;unfold strV y8 J8 at HWH;go_wp2_with fail
   refine HWH.out.mono ?_;rintro e w2 ⟨u,v,rfl,hB,hv,hD2,hC2,hfl⟩;have his:=b8W er v 11 w2 hv.get (by omega);have hH2:Held w2 (fun b=>F b\/b=rb) _:=(HHR.out.ext HE1.out).step (b8Z hC2);have hC12:=HC1.out.trans (b8Z (rb:=rb) hC2);have hrow2:a7z w w2 rb ids.length vs bs:=by
    have hlo:=HLO.out;refine HROW.out.keep ?_ fun b h1 h2 h3=>?_
    ·exact(hC2.block rb (by have:=HC1.out.size;omega) hrF).trans (HE1.out.block rb (by have:=HCK.out.size;omega))
    ·exact(hC2.block b (by have:=HE1.out.size;omega) fun h=>by have:=hlo b h;omega).trans (HE1.out.block b h2)
   have hB2:OwnB w2 w.heap.size u b:=O8 hB HC1.out.size;have HIS:=Lib.hid his;have HH2:=Lib.hid hH2;have HC2:=Lib.hid hC12;have HROW2:=Lib.hid hrow2;have HB:=Lib.hid hB2;have HFL:=Lib.hid hfl;have HV:=Lib.hid hv;have HD2:=Lib.hid hD2;clear his hH2 hC2 hC12 hrow2 hB hB2 hfl hv hD2 HWH HROW HHR HE1;unfold Y5 at HIS;obtain⟨ua,uc,rfl⟩:=ownsRow_form HB.out
   cases er with
   | ok=>
    obtain rfl:v=.nilIface:=HV.out.get;have hrw:=HROW2.out.row;have hbk:=HBS.out;have hfb2:=(HH2.out.get.2.1.cell 0).trans (show _=some (Value.slice (some ⟨rb,0,none⟩) ids.length ids.length) from rfl);have hcell:w2.cell? ⟨rb,k,none⟩=some (.slice none 0 0):=by
     simp only[World.cell?,hrw,Option.isSome_none,Bool.false_eq_true,if_false,List.getElem?_toArray];rw[List.getElem?_append_right (by rw[HROW2.out.len];omega),List.getElem?_replicate_of_lt (by rw[HROW2.out.len];omega)]
    have hfrz:w2.frozen? ⟨rb,k,none⟩=false:=by simp[World.frozen?,hrw]
    have hklt:(k:Int)<(ids.length:Int):=by omega
    have hd:decide (Er.code .ok=11)=false:=rfl;rw[hd] at HIS;clear hd hwe;go_wp2_with fail
    refine HIS.out.mono ?_;rintro e w3 ⟨rfl,rfl⟩;go_wp2;go_roundw
    case rel=>
     have hset:=HROW2.out.put HB.out HFL.out (by omega) hrl;rw[hbk] at hset;have hOff:=(Off.refl rb w3).setCell k (.slice ua b.length uc);refine⟨k+1,bs++[b],d1,vs++[.slice ua b.length uc],by go_num,by omega,by simp[hbk],?_,HSM.out.trans HWS.out,?_,?_,hset⟩
     ·rw[HOP.out];exact a3P (by rw[Int.toNat_natCast];exact HWR.out)
     ·exact HD2.out.frame (fun b hb=>hOff.block b fun e=>hrF (e▸hb)) (Nat.le_of_eq hOff.size.symm)
     ·exact HC2.out.trans (Chg.off hOff (.inr rfl))
    case measure=>simp[intOf];omega
   | num m=>rcases hwe with h|⟨_,h⟩<;>cases h
   | file m nm=>
    obtain⟨fbx,hvb,hfbb,hfbF⟩:=b0h HV.out;subst hvb;by_cases hm:m=11
    ·subst hm;have hd:decide (Er.code (.file 11 nm)=11)=true:=rfl;rw[hd] at HIS;have hnm2:=b0d J8 y w2 (by simp[J8]) (by omega) HH2.out.get.2.2;have hres:D.opensAcc ids d []=(bs,.file 7 (G5 J8 y),d1):=by
      rw[HOP.out,a1I (e:=.file 11 nm) (b:=b) (d1:=d1) (by rw[Int.toNat_natCast];exact HWR.out) (by simp)];simp[Er.code,Int.toNat_natCast]
     have HNM2:=Lib.hid hnm2;have HRS:=Lib.hid hres;clear hd hwe hnm2 hres;unfold strV J8 at HNM2;go_wp2_with fail
     refine HIS.out.mono ?_;rintro e w3 ⟨rfl,rfl⟩;go_wp2_with fail
     refine HNM2.out.mono ?_;rintro e w4 ⟨rfl,hE4⟩;have hD4:=HD2.out.ext hE4;have hC4:=HC2.out.trans (Chg.ext hE4);have hlow4:=hD4.low;have HD4:=Lib.hid hD4;have HC4:=Lib.hid hC4;have HL4:=Lib.hid hlow4;clear hD4 hC4 hlow4 hE4;go_wp2;have hE5:Ext w4 (w4.alloc (.cells #[strV (G5 J8 y),.int .i64 7] 134)):=(Ext.refl w4).new _;refine⟨rfl,_,rfl,rfl,?_,?_,?_,?_⟩
     ·rw[HRS.out];simp
     ·rw[HRS.out];exact HD4.out.ext hE5
     ·exact HC4.out.trans (Chg.ext hE5)
     ·rw[HRS.out];exact a1v HL4.out
    ·have hd:decide (Er.code (.file m nm)=11)=false:=decide_eq_false hm;rw[hd] at HIS;have hres:D.opensAcc ids d []=(bs,.file m nm,d1):=by
      rw[HOP.out,a1I (e:=.file m nm) (b:=b) (d1:=d1) (by rw[Int.toNat_natCast];exact HWR.out) (by simp)];simp[Er.code,hm]
     have hH5:Held w2 F (fun W=>ErrAt W (.iface 132 (.pointer (some ⟨fbx,0,none⟩))) (.file m nm)):=HV.out;have HRS:=Lib.hid hres;have HH5:=Lib.hid hH5;clear hd hwe hres hH5 hfbb hfbF HV;go_wp2_with fail
     refine HIS.out.mono ?_;rintro e w3 ⟨rfl,rfl⟩;go_wp2;refine⟨rfl,_,rfl,rfl,?_,?_,?_,?_⟩
     ·rw[HRS.out];simp
     ·rw[HRS.out];exact HD2.out
     ·exact HC2.out
     ·rw[HRS.out];exact HH5.out
  ·obtain rfl:k=ids.length:=by omega
   have hres:D.opensAcc ids d []=(bs,.ok,dk):=by
    rw[hop,List.drop_length];rfl
   have HDK:=Lib.hid hDk;have HCK:=Lib.hid hCk;have HROW:=Lib.hid hrow;have HRS:=Lib.hid hres;have HBS:=Lib.hid hbs;clear hDk hCk hrow hres hop hsame hHr hmb hint hfb hlaid hbs;go_wp2;refine⟨rfl,rfl,rfl,rfl,rfl,?_,?_,HCK.out,vs,?_,?_⟩
   ·rw[HRS.out]
   ·rw[HRS.out];exact HDK.out
   ·rw[HRS.out];exact HROW.out
   ·rw[HRS.out];exact HBS.out
end
section
open Go.RowKit Go.Lib Go.Maps Dk Pl
theorem b1c:(Tryz.prog.info? 154).map (fun i=>(i.zero,i.size,i.bytes))=some (some (.agg #[.int .i64 0,.slice none 0 0]),2,32):=by kernel_rfl
def QO5(a mb fb n:Nat)(g:Int)(v:Value)(w:World):Exit->Act->World->Prop
 | .normal,a',w'=>a'.defers=[]/\a'.tmps.size=118/\a'.tmps[4]?=some (.pointer (some ⟨mb,0,none⟩))/\a'.tmps[6]?=some (.pointer (some ⟨fb,0,none⟩))/\Ext w w'/\∃sx sb Cb,a'.tmps[11]?=some (.pointer (some ⟨sx,0,none⟩))/\w.heap.size<=sx/\w.heap.size<=sb/\w.heap.size<=Cb/\sb≠Cb/\sx≠Cb/\sx≠sb/\
  o7 w' sx 32 #[.pointer (some ⟨sb,0,none⟩)]/\o7 w' sb 138 #[y8 a,.int .u64 g,v,.slice (some ⟨Cb,0,none⟩) n n,.map none,.int .i64 0]/\w'.heap[Cb]?=some (.cells (madeCells #[.int .i64 0,.slice none 0 0] (n*2)) 154)
 | _,_,_=>False
theorem three(w:World)(o1 o2 o3:Obj):(((w.alloc o1).alloc o2).alloc o3).drew.heap[w.heap.size]?=some o1/\(((w.alloc o1).alloc o2).alloc o3).drew.heap[w.heap.size+1]?=some o2/\(((w.alloc o1).alloc o2).alloc o3).drew.heap[w.heap.size+1+1]?=some o3/\Ext w (((w.alloc o1).alloc o2).alloc o3).drew:=by
 have h1:(((w.alloc o1).alloc o2).alloc o3).drew.heap=((w.heap.push o1).push o2).push o3:=rfl;refine⟨?_,?_,?_,?_⟩
 ·rw[h1,Array.getElem?_push_lt (by simp;omega),Array.getElem_push_lt (by simp),Array.getElem_push_eq]
 ·have e:w.heap.size+1=(w.heap.push o1).size:=(Array.size_push ..).symm;rw[h1,e,Array.getElem?_push,if_neg (by rw[Array.size_push (xs:=w.heap.push o1)];omega)];exact Array.getElem?_push_size
 ·rw[h1];have e:w.heap.size+1+1=((w.heap.push o1).push o2).size:=by rw[Array.size_push,Array.size_push]
  rw[e];exact Array.getElem?_push_size
 ·exact Below.drew ((((Ext.refl w).new o1).new o2).new o3)
theorem t5{a mb fb:Nat}(T:Array Value)(hT:T.size=118)(h0:T[0]?=some (y8 a))(h4:T[4]?=some (.pointer (some ⟨mb,0,none⟩)))(h6:T[6]?=some (.pointer (some ⟨fb,0,none⟩)))(g:Int)(ia:Option Addr)(n ic:Nat)(w:World)(hb:o7 w mb 125 #[.int .u64 g,.slice ia n ic])(hn:n<=60):(N7 5).wp Tryz.prog (QO5 a mb fb n g (.slice ia n ic) w) ⟨T,[]⟩ w:=by
 rw[U0 (U0 (U0 (a1Y T hT) (k:=0) (G9 h0)) (k:=4) (G9 h4)) (k:=6) (G9 h6)];generalize (fun k=>T.getD k undef)=x;clear hT h0 h4 h6;obtain⟨i0,hi,hz0,hz1,hz2⟩:=info_parts b1c;have hmk:∀w:World,(Instr.makeSlice 135 (.int .i64 n) (.int .i64 n)).run Tryz.prog w=.ok (.slice (some ⟨w.heap.size,0,none⟩) n n) (w.alloc (.cells (madeCells #[.int .i64 0,.slice none 0 0] (n*2)) 154)):=fun w=>by
  have:=run_make (P:=Tryz.prog) w 135 154 i0 _ Tryz.underlying135 hi hz0 .i64 .i64 n n (by omega) (by omega) (by rw[hz2];omega) (by omega);rw[hz1] at this;exact this
 have d0:w.drew.cell? ⟨mb,0,none⟩=some (.int .u64 g):=(hb.cell 0).trans rfl;have d1:w.drew.cell? ⟨mb,1,none⟩=some (.slice ia n ic):=(hb.cell 1).trans rfl;have hl:mb<w.heap.size:=hb.lt;have hsz:w.drew.heap.size=w.heap.size:=rfl;have e0:∀o,(w.drew.alloc o).cell? ⟨mb,0,none⟩=some (.int .u64 g):=fun o=>(World.cell?_alloc_lt _ _ _ hl).trans d0;have e1:∀o,(w.drew.alloc o).cell? ⟨mb,1,none⟩=some (.slice ia n ic):=fun o=>(World.cell?_alloc_lt _ _ _ hl).trans d1;have c0:w.cell? ⟨mb,0,none⟩=some (.int .u64 g):=(hb.cell 0).trans rfl;have c1:w.cell? ⟨mb,1,none⟩=some (.slice ia n ic):=(hb.cell 1).trans rfl;have f0:∀o,(w.alloc o).drew.cell? ⟨mb,0,none⟩=some (.int .u64 g):=fun o=>(World.cell?_alloc_lt _ _ _ hl).trans c0;have f1:∀o,(w.alloc o).drew.cell? ⟨mb,1,none⟩=some (.slice ia n ic):=fun o=>(World.cell?_alloc_lt _ _ _ hl).trans c1;unfold N7 I5 y8 at *;simp only[Code.behind,Code.head,Tryz.f14,Option.getD_some,a5Y,up,reduceIte,Nat.reduceEqDiff];go_region
 ·exact⟨rfl,rfl,rfl,rfl,(three w _ _ _).2.2.2,w.heap.size+1+1,w.heap.size+1,w.heap.size,rfl,by omega,by omega,by omega,by omega,by omega,by omega,(three w _ _ _).2.2.1,(three w _ _ _).2.1,(three w _ _ _).1⟩
 ·exact⟨rfl,rfl,rfl,rfl,(three w _ _ _).2.2.2,w.heap.size+1,w.heap.size+1+1,w.heap.size,rfl,by omega,by omega,by omega,by omega,by omega,by omega,(three w _ _ _).2.1,(three w _ _ _).2.2.1,(three w _ _ _).1⟩
 ·exact⟨rfl,rfl,rfl,rfl,(three w _ _ _).2.2.2,w.heap.size,w.heap.size+1+1,w.heap.size+1,rfl,by omega,by omega,by omega,by omega,by omega,by omega,(three w _ _ _).1,(three w _ _ _).2.2.1,(three w _ _ _).2.1⟩
end
section
open Go.RowKit Go.Lib Pl
theorem b2D{l:List UInt8}{r:Rec}(h:dec l=some r):17<=r.size/\r.size<=l.length:=by
 unfold dec at h;split at h
 ·rename_i hg;injection h with h;subst h;unfold good at hg;simp only[Bool.and_eq_true,decide_eq_true_eq] at hg;obtain⟨h1,-,h3,-⟩:=hg;dsimp only;omega
 ·cases h
def a0h:Nat->Nat->List UInt8->List (Nat×Rec)
 | 0,_,_=>[]
 | n+1,off,l=>match dec (l.drop off) with
  | none=>[]
  | some r=>(off,r)::a0h n (off+r.size) l
def P7(l:List UInt8):List (Nat×Rec):=a0h (l.length+1) 0 l
def O5(seg:Int)(p:Nat×Rec):List Value:=[.int .i64 seg,.int .i64 p.1,.int .i64 p.2.size,.int .u64 p.2.seq,.string ⟨p.2.key.toArray⟩,.string ⟨p.2.val.toArray⟩,.bool p.2.del]
theorem a4H{n off:Nat}{l:List UInt8}(h:dec (l.drop off)=none):a0h n off l=[]:=by
 cases n with
 | zero=>rfl
 | succ n=>simp[a0h,h]
theorem b3U:(Tryz.prog.info? 160).map (fun i=>(i.zero,i.size,i.bytes))=some (some (.agg #[.int .i64 0,.int .i64 0,.int .i64 0,.int .u64 0,.string ⟨#[]⟩,.string ⟨#[]⟩,.bool false]),7,72):=by kernel_rfl
theorem b83(seg:Int)(v:Value)(l:List UInt8)(w:World)(h:Bytes w v l)(hl:l.length<=1099511627776):
 Calls Tryz.prog 61 #[.int .i64 seg,v] w fun e w'=>∃u,e=.returned u/\w'.ownsRow w.heap.size 160 7 u (P7 l).length ((P7 l).flatMap (O5 seg))/\Ext w w':=by
 obtain⟨i0,hi,hz0,hz1,hz2⟩:=info_parts b3U;obtain⟨a,cap,rfl,hc1,hc2,hcell⟩:=id h;have H:=Lib.hid h;clear h hcell;go_enter Tryz.func61,Tryz.ntmps61
 go_wp2;go_loopw [5,6] (fun u o wr=>∃(rs:List (Nat×Rec))(off n:Nat),o=.int .i64 off/\off<=l.length/\rs.length<=off/\P7 l=rs++a0h n off l/\l.length<n+off/\wr.ownsRow w.heap.size 160 7 u rs.length (rs.flatMap (O5 seg))/\Ext w wr) (fun _ o _=>l.length - (intOf o).toNat)
 case atStart=>exact⟨[],0,l.length+1,rfl,by omega,by simp,rfl,by omega,⟨rfl,Or.inl ⟨rfl,rfl⟩⟩,Ext.refl w⟩
 case round=>
  obtain⟨rs,off,n,rfl,hoff,hrs,hsc,hn,hown,hE⟩:=hrel;have hb1:=(H.out.ext hE).sliced off l.length hoff (Nat.le_refl _);rw[List.take_length] at hb1;have HN:=Lib.hid hn;have HSC:=Lib.hid hsc;have HO:=Lib.hid hown;have HE:=Lib.hid hE;have HB:=Lib.hid hb1;have HRS:=Lib.hid hrs;clear hn hsc hown hE hb1 hrs;go_wp2_with fail
  all_goals
   have HBo:=HB.out
   first
    | (rw[if_pos ‹cap=off›,show cap - off=0 by omega] at HBo)
    | rw[if_neg ‹¬cap=off›] at HBo
   refine(decode_any _ (l.drop off) wr HBo).mono ?_;rintro e w1 ⟨rfl,hE1⟩;clear HBo HB
   cases hd:dec (l.drop off) with
   | none=>
    have hX:o7 (w1.alloc (.cells #[.int .u64 0,.string ⟨#[]⟩,.string ⟨#[]⟩,.bool false] 111)) w1.heap.size 111 #[.int .u64 0,.string ⟨#[]⟩,.string ⟨#[]⟩,.bool false]:=o7.new _ _ rfl;have e0:=(HSC.out).trans (by rw[a4H hd,List.append_nil]);have hown:=Dep.row HO.out (w1.alloc (.cells #[.int .u64 0,.string ⟨#[]⟩,.string ⟨#[]⟩,.bool false] 111)) fun b hb=>(hE1.new (.cells #[.int .u64 0,.string ⟨#[]⟩,.string ⟨#[]⟩,.bool false] 111)).block b (World.ownsRow.lt HO.out b hb).2;have hE2:Ext w (w1.alloc (.cells #[.int .u64 0,.string ⟨#[]⟩,.string ⟨#[]⟩,.bool false] 111)):=(Ext.trans HE.out hE1).new _;have HOW:=Lib.hid hown;have HE2:=Lib.hid hE2;have E0:=Lib.hid e0;clear hown hE2 e0 hX hE1;unfold a15 a0G Y5;go_wp2_with fail
    exact bodyPost_ret (v:=u5) (by simp[results,Tryz.results61]) rfl ⟨u5,rfl,by rw[E0.out];exact HOW.out,HE2.out⟩
   | some r=>
    obtain⟨hr1,hr2⟩:=b2D hd;rw[List.length_drop] at hr2
    first
    | (exfalso;omega)
    | skip
      have hn:=HN.out;obtain⟨m,rfl⟩:∃m,n=m+1:=⟨n - 1,by omega⟩;have e0:P7 l=(rs++[(off,r)])++a0h m (off+r.size) l:=by
       rw[HSC.out,List.append_assoc];simp[a0h,hd]
      have hX:o7 (w1.alloc (.cells #[.int .u64 r.seq,.string ⟨r.key.toArray⟩,.string ⟨r.val.toArray⟩,.bool r.del] 111)) w1.heap.size 111 #[.int .u64 r.seq,.string ⟨r.key.toArray⟩,.string ⟨r.val.toArray⟩,.bool r.del]:=o7.new _ _ rfl;have hown:=Dep.row HO.out (w1.alloc (.cells #[.int .u64 r.seq,.string ⟨r.key.toArray⟩,.string ⟨r.val.toArray⟩,.bool r.del] 111)) fun b hb=>(hE1.new (.cells #[.int .u64 r.seq,.string ⟨r.key.toArray⟩,.string ⟨r.val.toArray⟩,.bool r.del] 111)).block b (World.ownsRow.lt HO.out b hb).2;have hE2:Ext w (w1.alloc (.cells #[.int .u64 r.seq,.string ⟨r.key.toArray⟩,.string ⟨r.val.toArray⟩,.bool r.del] 111)):=(Ext.trans HE.out hE1).new _;obtain⟨ua,uc,rfl⟩:=ownsRow_form HO.out;have hsz:w.heap.size<=(w1.alloc (.cells #[.int .u64 r.seq,.string ⟨r.key.toArray⟩,.string ⟨r.val.toArray⟩,.bool r.del] 111)).heap.size:=hE2.size;have hrl:=HRS.out;have HOW:=Lib.hid hown;have HE2:=Lib.hid hE2;have E0:=Lib.hid e0;have HX:=Lib.hid hX;have HE1:=Lib.hid hE1;clear hown hE2 e0 hX hE1 HN HSC HO;unfold a15
      have hsz2:w.heap.size<=w1.heap.size+2:=by have:(w1.alloc (.cells #[.int .u64 r.seq,.string ⟨r.key.toArray⟩,.string ⟨r.val.toArray⟩,.bool r.del] 111)).heap.size=w1.heap.size+1:=by simp
                                                omega
      have hnw:((w1.alloc (.cells #[.int .u64 r.seq,.string ⟨r.key.toArray⟩,.string ⟨r.val.toArray⟩,.bool r.del] 111)).alloc (.cells #[.int .i64 seg,.int .i64 off,.int .i64 r.size,.int .u64 r.seq,.string ⟨r.key.toArray⟩,.string ⟨r.val.toArray⟩,.bool r.del] 160)).heap[w1.heap.size+1]?=some (.cells #[.int .i64 seg,.int .i64 off,.int .i64 r.size,.int .u64 r.seq,.string ⟨r.key.toArray⟩,.string ⟨r.val.toArray⟩,.bool r.del] 160):=by
       have e:(w1.alloc (.cells #[.int .u64 r.seq,.string ⟨r.key.toArray⟩,.string ⟨r.val.toArray⟩,.bool r.del] 111)).heap.size=w1.heap.size+1:=by simp
       rw[<-e];exact heap_alloc_new _ _
      go_wp2_with (at_builtin;go_must (refine H5 rfl _ _ 151 rfl w.heap.size 160 i0 (.agg #[.int .i64 0,.int .i64 0,.int .i64 0,.int .u64 0,.string ⟨#[]⟩,.string ⟨#[]⟩,.bool false]) 7 72 Tryz.underlying151 hi hz0 hz1 hz2 rfl (by omega) (.slice ua rs.length uc) rs.length _ rfl (World.ownsRow.alloc HOW.out (.cells #[.int .i64 seg,.int .i64 off,.int .i64 r.size,.int .u64 r.seq,.string ⟨r.key.toArray⟩,.string ⟨r.val.toArray⟩,.bool r.del] 160)) (.slice (some ⟨w1.heap.size+1,0,none⟩) 1 1) 1 [.int .i64 seg,.int .i64 off,.int .i64 r.size,.int .u64 r.seq,.string ⟨r.key.toArray⟩,.string ⟨r.val.toArray⟩,.bool r.del] rfl ⟨_,_,rfl,by omega,⟨by omega,fun h=>by cases h⟩,fun _=>⟨_,rfl,World.news_of_block (cs:=#[.int .i64 seg,.int .i64 off,.int .i64 r.size,.int .u64 r.seq,.string ⟨r.key.toArray⟩,.string ⟨r.val.toArray⟩,.bool r.del]) (t:=160) (fr:=(0,0)) hnw⟩⟩ rfl (by simp[Value.oneCell']) (by unfold maxLen;omega) (by omega) (by simp;omega) ?_);intro b6 c6 w6 hown6 hgrow6 hat6;have HO6:=Lib.hid hown6;have HG6:=Lib.hid hgrow6;clear hown6 hgrow6 hat6)
      go_roundw
      case rel=>
       refine⟨rs++[(off,r)],off+r.size,m,by go_num,by omega,by simp;omega,E0.out,by omega,?_,?_⟩
       ·have:=HO6.out;rw[List.length_append,List.flatMap_append];simpa [O5] using this
       ·refine Below.grown (HE2.out.new _) HG6.out (by simp;omega) (fun j hj=>?_);have:=(World.ownsRow.lt HOW.out j hj).1;omega
      case measure=>simp[intOf];omega
end
section
open Go.RowKit Go.Lib Go.Maps Dk Pl
theorem b6s:Extern.find Tryz.f118=some (Extern.Atomic.loadT (.int .i64)):=by rfl
theorem b0e(b:Nat)(v:Int)(t:TypeId)(w:World)(h:w.heap[b]?=some (.cells #[.int .i64 v] t)):Calls Tryz.prog 64 #[.pointer (some ⟨b,0,none⟩)] w fun e w'=>e=.returned (.int .i64 v)/\w'=w:=by
 have hc:w.cell? ⟨b,0,none⟩=some (.int .i64 v):=by simp[World.cell?,h]
 have hcf:=run_call_load (P:=Tryz.prog) Tryz.func118 (by kernel_rfl) (by kernel_rfl) (by rfl) .i64 b6s hc;go_enter Tryz.func64,Tryz.ntmps64
 go_wp2;go_ret;exact⟨rfl,rfl⟩
def QO6(sx sb:Nat)(c0 c1 c2 c3 c4:Value)(v:Int)(al:Nat)(w:World):Exit->Act->World->Prop
 | .normal,a',w'=>a'.defers=[]/\a'.tmps.size=118/\a'.tmps[11]?=some (.pointer (some ⟨sx,0,none⟩))/\o7 w' sb 138 #[c0,c1,c2,c3,c4,.int .i64 v]/\Off sb w w'
 | _,_,_=>False
theorem t10{sx sb al:Nat}(T:Array Value)(hT:T.size=118)(h11:T[11]?=some (.pointer (some ⟨sx,0,none⟩)))(h12:T[12]?=some (.pointer (some ⟨al,0,none⟩)))(c0 c1 c2 c3 c4 c5:Value)(v:Int)(t:TypeId)(w:World)(hs:o7 w sx 32 #[.pointer (some ⟨sb,0,none⟩)])(hb:o7 w sb 138 #[c0,c1,c2,c3,c4,c5])(ha:w.heap[al]?=some (.cells #[.int .i64 v] t)):(N7 10).wp Tryz.prog (QO6 sx sb c0 c1 c2 c3 c4 v al w) ⟨T,[]⟩ w:=by
 rw[U0 (U0 (a1Y T hT) (k:=11) (G9 h11)) (k:=12) (G9 h12)];generalize (fun k=>T.getD k undef)=x;clear hT h11 h12;have d0:w.drew.cell? ⟨sx,0,none⟩=some (.pointer (some ⟨sb,0,none⟩)):=(hs.cell 0).trans rfl;have d1:w.drew.cell? ⟨sb,5,none⟩=some c5:=(hb.cell 5).trans rfl;have f1:w.drew.frozen? ⟨sb,5,none⟩=false:=hb.free 5;have hO:=(Off.refl sb w.drew).setCell 5 (.int .i64 v);have hB:o7 (w.drew.setCell ⟨sb,5,none⟩ (.int .i64 v)) sb 138 #[c0,c1,c2,c3,c4,.int .i64 v]:=(show o7 w.drew sb 138 #[c0,c1,c2,c3,c4,c5] from hb).set 5 (.int .i64 v);have hld:=b0e al v t w.drew ha;unfold N7 I5;simp only[Code.behind,Code.head,Tryz.f14,Option.getD_some,a5Y,up,reduceIte,Nat.reduceEqDiff];go_region_with (go_at_call 64;refine(b0e al v t _ ?_).mono ?_;exact ha;rintro e w1 ⟨rfl,rfl⟩)
 all_goals
  have hO':=(Off.refl sb w).setCell 5 (.int .i64 v);exact⟨rfl,rfl,rfl,hB,⟨hO'.os,hO'.tape,hO'.output,hO'.size,hO'.block⟩⟩
abbrev Fd:=Nat×Nat×Rec
def fdV(q:Fd):Value:=.agg (O5 q.1 q.2).toArray
abbrev a19(w:World)(r:Nat)(l:List (Nm×Fd)):Prop:=MapOf Tryz.prog 9 strV fdV w r l
def QO7(sx sb:Nat)(c0 c1 c2 c3:Value)(v:Int)(w:World):Exit->Act->World->Prop
 | .normal,a',w'=>a'.defers=[]/\a'.tmps.size=118/\a'.tmps[11]?=some (.pointer (some ⟨sx,0,none⟩))/\Chg (fun b=>b=sb) (fun b=>b=sb) w w'/\∃r,w.heap.size<=r/\o7 w' sb 138 #[c0,c1,c2,c3,.map (some r),.int .i64 v]/\a19 w' r []
 | _,_,_=>False
theorem t11{sx sb:Nat}(T:Array Value)(hT:T.size=118)(h11:T[11]?=some (.pointer (some ⟨sx,0,none⟩)))(c0 c1 c2 c3 c4:Value)(v:Int)(w:World)(hs:o7 w sx 32 #[.pointer (some ⟨sb,0,none⟩)])(hb:o7 w sb 138 #[c0,c1,c2,c3,c4,.int .i64 v]):(N7 11).wp Tryz.prog (QO7 sx sb c0 c1 c2 c3 v w) ⟨T,[]⟩ w:=by
 rw[U0 (a1Y T hT) (k:=11) (G9 h11)];generalize (fun k=>T.getD k undef)=x;clear hT h11;have hmm:∀w:World,(Instr.makeMap 136 (some (.int .i64 v))).run Tryz.prog w=.ok (.map (some w.heap.size)) (w.alloc (.map #[] 0)):=fun w=>by
  simp[Instr.makeMap,run_underlying Tryz.underlying136,asInt,asIntOf,Result.andThen]
 have d0:w.drew.cell? ⟨sx,0,none⟩=some (.pointer (some ⟨sb,0,none⟩)):=(hs.cell 0).trans rfl;have d1:w.drew.cell? ⟨sb,5,none⟩=some (.int .i64 v):=(hb.cell 5).trans rfl;have d2:(w.drew.alloc (.map #[] 0)).cell? ⟨sx,0,none⟩=some (.pointer (some ⟨sb,0,none⟩)):=(World.cell?_alloc_lt _ _ _ hs.lt).trans d0;have d3:(w.drew.alloc (.map #[] 0)).cell? ⟨sb,4,none⟩=some c4:=(World.cell?_alloc_lt _ _ _ hb.lt).trans ((hb.cell 4).trans rfl);have e0:w.cell? ⟨sx,0,none⟩=some (.pointer (some ⟨sb,0,none⟩)):=d0;have e1:w.cell? ⟨sb,5,none⟩=some (.int .i64 v):=d1;have e2:(w.alloc (.map #[] 0)).drew.cell? ⟨sx,0,none⟩=some (.pointer (some ⟨sb,0,none⟩)):=d2;have e3:(w.alloc (.map #[] 0)).drew.cell? ⟨sb,4,none⟩=some c4:=d3;have hbn:o7 (w.alloc (.map #[] 0)) sb 138 #[c0,c1,c2,c3,c4,.int .i64 v]:=hb.alloc _;have f1:(w.alloc (.map #[] 0)).drew.frozen? ⟨sb,4,none⟩=false:=hbn.free 4;have f2:(w.drew.alloc (.map #[] 0)).frozen? ⟨sb,4,none⟩=false:=hbn.free 4;unfold N7 I5;simp only[Code.behind,Code.head,Tryz.f14,Option.getD_some,a5Y,up,reduceIte,Nat.reduceEqDiff];go_region
 have hO:=(Off.refl sb (w.alloc (.map #[] 0))).setCell 4 (.map (some w.heap.size));have hC:Chg (fun b=>b=sb) (fun b=>b=sb) w ((w.alloc (.map #[] 0)).setCell ⟨sb,4,none⟩ (.map (some w.heap.size))):=(Chg.ext ((Ext.refl w).new _)).trans (Chg.off hO rfl);have hM:a19 ((w.alloc (.map #[] 0)).setCell ⟨sb,4,none⟩ (.map (some w.heap.size))) w.heap.size []:=(MapOf.made w).off hO (by have:=hb.lt;omega);exact⟨rfl,rfl,rfl,⟨hC.os,hC.tape,hC.output,hC.size,hC.block,hC.grow⟩,w.heap.size,Nat.le_refl _,hbn.set 4 _,hM⟩
end
section
open Go.RowKit Pl
def a2M(w:World)(e:TypeId)(size:Nat)(v:Value)(n:Nat)(xs:List Value):Prop:=
 xs.length=n*size/\((v=.slice none 0 0/\n=0)\/∃g cap cur fr,v=.slice (some ⟨g,0,none⟩) n cap/\w.heap[g]?=some (.cells cur e fr)/\n<=cap/\cap<=maxLen/\cur.size=cap*size/\cur.toList.take (n*size)=xs)
theorem a2M.slice{w:World}{e:TypeId}{size:Nat}{v:Value}{n:Nat}{xs:List Value}(h:a2M w e size v n xs):∃a c,v=.slice a n c:=by
 rcases h.2 with⟨rfl,rfl⟩|⟨g,cap,cur,fr,rfl,_⟩
 ·exact⟨none,0,rfl⟩
 ·exact⟨_,_,rfl⟩
theorem a2M.keep{w w':World}{e:TypeId}{size:Nat}{v:Value}{n:Nat}{xs:List Value}(h:a2M w e size v n xs)(he:∀g,v.ownBlock=some g->w'.heap[g]?=w.heap[g]?):a2M w' e size v n xs:=by
 refine⟨h.1,?_⟩;rcases h.2 with h|⟨g,cap,cur,fr,rfl,h2,h3⟩
 ·exact .inl h
 ·exact .inr ⟨g,cap,cur,fr,rfl,(he g rfl).trans h2,h3⟩
end
section
open Go.RowKit Go.Lib Go.Maps Dk Pl
def a3j(seg:Nat)(l:List (Nat×Rec))(m:List (Nm×Fd)):List (Nm×Fd):=l.foldl (fun m p=>a1d m p.2.key (seg,p)) m
theorem b2A(seg:Nat)(l:List (Nat×Rec))(p:Nat×Rec)(m:List (Nm×Fd)):a3j seg (l++[p]) m=a1d (a3j seg l m) p.2.key (seg,p):=by simp[a3j]
def a3C(bss:List (List UInt8)):Nat->List (Nm×Fd)
 | 0=>[]
 | k+1=>a3j k (P7 (bss.getD k [])) (a3C bss k)
def a2A(w:World)(Cb n:Nat)(ids:List Int)(bss:List (List UInt8)):Prop:=
 ∀i,i<n->w.cell? ⟨Cb,2*i,none⟩=some (.int .i64 (ids.getD i 0))/\∃u,w.cell? ⟨Cb,2*i+1,none⟩=some u/\a2M w 160 7 u (P7 (bss.getD i [])).length ((P7 (bss.getD i [])).flatMap (O5 i))
theorem cell_lt{w:World}{a:Addr}{v:Value}(h:w.cell? a=some v):a.block<w.heap.size:=by
 unfold World.cell? at h
 cases e:w.heap[a.block]? with
 | none=>rw[e] at h;cases h
 | some o=>exact lt_of_block e
theorem a2M.lt{w:World}{e:TypeId}{size:Nat}{v:Value}{n:Nat}{xs:List Value}(h:a2M w e size v n xs){g:Nat}(hg:v.ownBlock=some g):g<w.heap.size:=by
 rcases h.2 with⟨rfl,_⟩|⟨g',cap,cur,fr,rfl,h2,_⟩
 ·cases hg
 ·obtain rfl:g'=g:=by simpa [Value.ownBlock] using hg
  exact lt_of_block h2
theorem a2M.ne_map{w:World}{e:TypeId}{size:Nat}{v:Value}{n:Nat}{xs:List Value}(h:a2M w e size v n xs){g r:Nat}(hg:v.ownBlock=some g){es:Array MapEntry}{c:Nat}(hr:w.heap[r]?=some (.map es c)):g≠r:=by
 rintro rfl;rcases h.2 with⟨rfl,_⟩|⟨g',cap,cur,fr,rfl,h2,_⟩
 ·cases hg
 ·obtain rfl:g'=g:=by simpa [Value.ownBlock] using hg
  rw[hr] at h2;cases h2
theorem a2M.rec{w:World}{seg:Int}{u:Value}{l:List (Nat×Rec)}(h:a2M w 160 7 u l.length (l.flatMap (O5 seg))){j:Nat}(hj:j<l.length):
 ∃g cap,u=.slice (some ⟨g,0,none⟩) l.length cap/\l.length<=cap/\g<w.heap.size/\∀c x,(O5 seg l[j])[c]?=some x->w.cell? ⟨g,j*7+c,none⟩=some x:=by
 rcases h.2 with⟨_,h0⟩|⟨g,cap,cur,fr,rfl,hg,h1,h2,h3,h4⟩
 ·omega
 ·refine⟨g,cap,rfl,h1,lt_of_block hg,fun c x hx=>?_⟩;have hc:c<7:=by
   have:=(List.getElem?_eq_some_iff.1 hx).1;simpa [O5] using this
  have hlt:j*7+c<l.length*7:=by omega
  have e1:(l.flatMap (O5 seg))[j*7+c]?=some x:=by
   rw[<-hx];clear h h4 hx hg h3
   induction l generalizing j with
   | nil=>simp at hj
   | cons p l ih=>
    rw[List.flatMap_cons]
    cases j with
    | zero=>
     rw[List.getElem?_append_left (by simp[O5];omega)]
     simp
    | succ j=>
     rw[List.getElem?_append_right (by simp[O5];omega)];have e:(j+1)*7+c - (O5 seg p).length=j*7+c:=by simp[O5];omega
     rw[e];simp only[List.length_cons] at hj hlt;rw[ih (by omega) (by simp only[List.length_cons] at h1;omega) (by omega)];simp
  rw[<-h4,List.getElem?_take,if_pos hlt,Array.getElem?_toList] at e1;simp[World.cell?,hg,e1]
end
section
open Go.RowKit Go.Lib Go.Maps Dk Pl
def QO8(sx r:Nat)(bss:List (List UInt8))(n:Nat)(w:World):Exit->Act->World->Prop
 | .normal,a',w'=>a'.defers=[]/\a'.tmps.size=118/\a'.tmps[11]?=some (.pointer (some ⟨sx,0,none⟩))/\Chg (fun b=>b=r) (fun b=>b=r) w w'/\a19 w' r (a3C bss n)
 | _,_,_=>False
theorem b5u{F:Nat->Prop}{w w':World}(h:Chg F F w w')(o:Obj):Chg F F w (w'.alloc o):=h.trans (Chg.ext ((Ext.refl w').new o))
theorem b5v{F:Nat->Prop}{w w':World}{n:Nat}{t:TypeId}{cs:Array Value}(h:Chg F F w w')(hb:o7 w n t cs)(hF:¬F n):o7 w' n t cs:=(h.block n hb.lt hF).trans hb
theorem b1d:∀(n off:Nat)(l:List UInt8),∀p∈a0h n off l,p.2.key.length<=16:=by
 intro n
 induction n with
 | zero=>intro off l p hp;cases hp
 | succ n ih=>
  intro off l p hp;unfold a0h at hp
  cases hd:dec (l.drop off) with
  | none=>rw[hd] at hp;cases hp
  | some r=>
   rw[hd] at hp;rcases List.mem_cons.1 hp with rfl|hp
   ·unfold dec at hd;split at hd
    ·rename_i hg;injection hd with hd;subst hd;unfold good at hg;simp only[Bool.and_eq_true,decide_eq_true_eq] at hg;have:=hg.2.2.2.1;show(List.take _ _).length<=16;rw[List.length_take];omega
    ·cases hd
   ·exact ih _ _ p hp
theorem b6t(l:List UInt8):∀p∈P7 l,p.2.key.length<=16:=b1d _ _ _
theorem t12{sx sb Cb r n n':Nat}(T:Array Value)(hT:T.size=118)(h11:T[11]?=some (.pointer (some ⟨sx,0,none⟩)))(c0 c1 c2 c5:Value)(ids:List Int)(bss:List (List UInt8))(w:World)(hs:o7 w sx 32 #[.pointer (some ⟨sb,0,none⟩)])(hb:o7 w sb 138 #[c0,c1,c2,.slice (some ⟨Cb,0,none⟩) n n',.map (some r),c5])
 (hn:n<=n'/\n<=1000000)(hS:a2A w Cb n ids bss)(hM:a19 w r [])(hrs:r≠sx/\r≠sb):(N7 12).wp Tryz.prog (QO8 sx r bss n w) ⟨T,[]⟩ w:=by
 rw[U0 (a1Y T hT) (k:=11) (G9 h11)];generalize (fun k=>T.getD k undef)=x;clear hT h11;have d0:w.cell? ⟨sx,0,none⟩=some (.pointer (some ⟨sb,0,none⟩)):=(hs.cell 0).trans rfl;have d1:w.cell? ⟨sb,3,none⟩=some (.slice (some ⟨Cb,0,none⟩) n n'):=(hb.cell 3).trans rfl;have HS:=Lib.hid hS;have HM:=Lib.hid hM;have HSX:=Lib.hid hs;have HSB:=Lib.hid hb;clear hS hM hs hb;unfold N7 I5;simp only[Code.behind,Code.head,Tryz.f14,Option.getD_some,a5Y,up,reduceIte,Nat.reduceEqDiff];go_wp2;go_loopw [96] (fun i wr=>∃k:Nat,i=.int .i64 k/\k<=n/\Chg (fun b=>b=r) (fun b=>b=r) w wr/\a19 wr r (a3C bss k)) (fun i _=>n - (intOf i).toNat)
 case atStart=>exact⟨0,rfl,by omega,.refl _ w,HM.out⟩
 case round=>
  obtain⟨k,rfl,hk,hC,hM⟩:=hrel;by_cases hlt:k<n
  ·obtain⟨es,ck,hes,-⟩:=HM.out;obtain⟨s1,u,s2,hrow⟩:=HS.out k hlt;obtain⟨ua,uc,rfl⟩:=hrow.slice;have hCbl:=cell_lt s1;have hCb:Cb≠r:=by
    rintro rfl;simp[World.cell?,hes] at s1
   have s1':wr.cell? ⟨Cb,k*2,none⟩=some (.int .i64 (ids.getD k 0)):=by rw[Nat.mul_comm];exact(World.cell?_of_block (hC.block Cb hCbl hCb)).trans s1
   have s2':wr.cell? ⟨Cb,k*2+1,none⟩=some (.slice ua (P7 (bss.getD k [])).length uc):=by rw[Nat.mul_comm];exact(World.cell?_of_block (hC.block Cb hCbl hCb)).trans s2
   have hki:(k:Int)<(n:Int):=by omega
   have hLm:(P7 (bss.getD k [])).length<=maxLen:=by
    rcases hrow.2 with⟨_,h⟩|⟨g,cap,cur,fr,hv,_,h1,h2,_⟩
    ·rw[h];exact Nat.zero_le _
    ·exact Nat.le_trans h1 h2
   unfold maxLen at hLm;obtain⟨L,hL⟩:∃L,P7 (bss.getD k [])=L:=⟨_,rfl⟩;have hkey:∀p∈L,p.2.key.length<=16:=fun p hp=>b6t _ p (hL▸hp);have hnext:a3C bss (k+1)=a3j k L (a3C bss k):=by rw[<-hL];rfl
   rw[hL] at hrow s2' hLm;have HR:=Lib.hid hrow;have HC:=Lib.hid hC;have HMM:=Lib.hid hM;have HES:=Lib.hid hes;have HKEY:=Lib.hid hkey;have HNX:=Lib.hid hnext;clear hrow hC hM s1 s2 hes hkey hnext hL;go_wp2_with fail
   go_loopw [103] (fun j wi=>∃m:Nat,j=.int .i64 m/\m<=L.length/\Chg (fun b=>b=r) (fun b=>b=r) w wi/\a19 wi r (a3j k (L.take m) (a3C bss k))) (fun j _=>L.length - (intOf j).toNat)
   case atStart=>exact⟨0,rfl,by omega,b5u HC.out _,(HMM.out).ext ((Ext.refl wr).new _)⟩
   case round=>
    rename World=>wi
    obtain⟨m,rfl,hm,hCi,hMi⟩:=hrel;by_cases hml:m<L.length
    ·obtain⟨g,cap,hu,hcap,hgl,hcells⟩:=a2M.rec (HR.out.keep fun g hg=>hCi.block g (HR.out.lt hg) (HR.out.ne_map hg HES.out)) hml;injection hu with h1 h2 h3;subst h1;subst h3;have hmi:(m:Int)<(L.length:Int):=by omega
     have q0:=hcells 0 _ rfl;have q1:=hcells 1 _ rfl;have q2:=hcells 2 _ rfl;have q3:=hcells 3 _ rfl;have q4:=hcells 4 _ rfl;have q5:=hcells 5 _ rfl;have q6:=hcells 6 _ rfl;rw[Nat.add_zero] at q0;have hkl:=HKEY.out _ (List.getElem_mem hml);have hbx:o7 (wi.alloc (.cells #[.int .i64 k,.int .i64 L[m].1,.int .i64 L[m].2.size,.int .u64 L[m].2.seq,.string ⟨L[m].2.key.toArray⟩,.string ⟨L[m].2.val.toArray⟩,.bool L[m].2.del] 160)) wi.heap.size 160 #[.int .i64 k,.int .i64 L[m].1,.int .i64 L[m].2.size,.int .u64 L[m].2.seq,.string ⟨L[m].2.key.toArray⟩,.string ⟨L[m].2.val.toArray⟩,.bool L[m].2.del]:=o7.new _ _ rfl;have hsx:=(b5v hCi HSX.out (Ne.symm hrs.1)).alloc (.cells #[.int .i64 k,.int .i64 L[m].1,.int .i64 L[m].2.size,.int .u64 L[m].2.seq,.string ⟨L[m].2.key.toArray⟩,.string ⟨L[m].2.val.toArray⟩,.bool L[m].2.del] 160);have hsb:=(b5v hCi HSB.out (Ne.symm hrs.2)).alloc (.cells #[.int .i64 k,.int .i64 L[m].1,.int .i64 L[m].2.size,.int .u64 L[m].2.seq,.string ⟨L[m].2.key.toArray⟩,.string ⟨L[m].2.val.toArray⟩,.bool L[m].2.del] 160);have a0:(wi.alloc (.cells #[.int .i64 k,.int .i64 L[m].1,.int .i64 L[m].2.size,.int .u64 L[m].2.seq,.string ⟨L[m].2.key.toArray⟩,.string ⟨L[m].2.val.toArray⟩,.bool L[m].2.del] 160)).drew.cell? ⟨sx,0,none⟩=some (.pointer (some ⟨sb,0,none⟩)):=(hsx.cell 0).trans rfl;have a1:(wi.alloc (.cells #[.int .i64 k,.int .i64 L[m].1,.int .i64 L[m].2.size,.int .u64 L[m].2.seq,.string ⟨L[m].2.key.toArray⟩,.string ⟨L[m].2.val.toArray⟩,.bool L[m].2.del] 160)).drew.cell? ⟨sb,4,none⟩=some (.map (some r)):=(hsb.cell 4).trans rfl;have b0:(wi.alloc (.cells #[.int .i64 k,.int .i64 L[m].1,.int .i64 L[m].2.size,.int .u64 L[m].2.seq,.string ⟨L[m].2.key.toArray⟩,.string ⟨L[m].2.val.toArray⟩,.bool L[m].2.del] 160)).drew.cell? ⟨wi.heap.size,0,none⟩=some (.int .i64 k):=(hbx.cell 0).trans rfl;have b1:(wi.alloc (.cells #[.int .i64 k,.int .i64 L[m].1,.int .i64 L[m].2.size,.int .u64 L[m].2.seq,.string ⟨L[m].2.key.toArray⟩,.string ⟨L[m].2.val.toArray⟩,.bool L[m].2.del] 160)).drew.cell? ⟨wi.heap.size,1,none⟩=some (.int .i64 L[m].1):=(hbx.cell 1).trans rfl;have b2:(wi.alloc (.cells #[.int .i64 k,.int .i64 L[m].1,.int .i64 L[m].2.size,.int .u64 L[m].2.seq,.string ⟨L[m].2.key.toArray⟩,.string ⟨L[m].2.val.toArray⟩,.bool L[m].2.del] 160)).drew.cell? ⟨wi.heap.size,2,none⟩=some (.int .i64 L[m].2.size):=(hbx.cell 2).trans rfl;have b3:(wi.alloc (.cells #[.int .i64 k,.int .i64 L[m].1,.int .i64 L[m].2.size,.int .u64 L[m].2.seq,.string ⟨L[m].2.key.toArray⟩,.string ⟨L[m].2.val.toArray⟩,.bool L[m].2.del] 160)).drew.cell? ⟨wi.heap.size,3,none⟩=some (.int .u64 L[m].2.seq):=(hbx.cell 3).trans rfl;have b4:(wi.alloc (.cells #[.int .i64 k,.int .i64 L[m].1,.int .i64 L[m].2.size,.int .u64 L[m].2.seq,.string ⟨L[m].2.key.toArray⟩,.string ⟨L[m].2.val.toArray⟩,.bool L[m].2.del] 160)).drew.cell? ⟨wi.heap.size,4,none⟩=some (.string ⟨L[m].2.key.toArray⟩):=(hbx.cell 4).trans rfl;have b5:(wi.alloc (.cells #[.int .i64 k,.int .i64 L[m].1,.int .i64 L[m].2.size,.int .u64 L[m].2.seq,.string ⟨L[m].2.key.toArray⟩,.string ⟨L[m].2.val.toArray⟩,.bool L[m].2.del] 160)).drew.cell? ⟨wi.heap.size,5,none⟩=some (.string ⟨L[m].2.val.toArray⟩):=(hbx.cell 5).trans rfl;have b6:(wi.alloc (.cells #[.int .i64 k,.int .i64 L[m].1,.int .i64 L[m].2.size,.int .u64 L[m].2.seq,.string ⟨L[m].2.key.toArray⟩,.string ⟨L[m].2.val.toArray⟩,.bool L[m].2.del] 160)).drew.cell? ⟨wi.heap.size,6,none⟩=some (.bool L[m].2.del):=(hbx.cell 6).trans rfl;have hM2:a19 (wi.alloc (.cells #[.int .i64 k,.int .i64 L[m].1,.int .i64 L[m].2.size,.int .u64 L[m].2.seq,.string ⟨L[m].2.key.toArray⟩,.string ⟨L[m].2.val.toArray⟩,.bool L[m].2.del] 160)).drew r (a3j k (L.take m) (a3C bss k)):=hMi.ext (Below.drew ((Ext.refl wi).new _));obtain⟨w3,hrun,hN3,hO3⟩:=hM2.store a3N a3M Tryz.underlying136 (a8i (l:=L[m].2.key) (by unfold maxLen;omega)) ((k,L[m]):Fd);have hrun3:(Instr.mapUpdate 136 (.map (some r)) (.string ⟨L[m].2.key.toArray⟩) (.agg #[.int .i64 k,.int .i64 L[m].1,.int .i64 L[m].2.size,.int .u64 L[m].2.seq,.string ⟨L[m].2.key.toArray⟩,.string ⟨L[m].2.val.toArray⟩,.bool L[m].2.del])).run Tryz.prog (wi.alloc (.cells #[.int .i64 k,.int .i64 L[m].1,.int .i64 L[m].2.size,.int .u64 L[m].2.seq,.string ⟨L[m].2.key.toArray⟩,.string ⟨L[m].2.val.toArray⟩,.bool L[m].2.del] 160)).drew=.ok () w3:=hrun;have hput:a3j k (L.take (m+1)) (a3C bss k)=a1d (a3j k (L.take m) (a3C bss k)) L[m].2.key (k,L[m]):=by
      rw[take_snoc L m hml,b2A]
     have hCW:Chg (fun b=>b=r) (fun b=>b=r) w (wi.alloc (.cells #[.int .i64 k,.int .i64 L[m].1,.int .i64 L[m].2.size,.int .u64 L[m].2.seq,.string ⟨L[m].2.key.toArray⟩,.string ⟨L[m].2.val.toArray⟩,.bool L[m].2.del] 160)).drew:=by
      have:=b5u hCi (.cells #[.int .i64 k,.int .i64 L[m].1,.int .i64 L[m].2.size,.int .u64 L[m].2.seq,.string ⟨L[m].2.key.toArray⟩,.string ⟨L[m].2.val.toArray⟩,.bool L[m].2.del] 160);exact⟨this.os,this.tape,this.output,this.size,this.block,this.grow⟩
     have hC3:=hCW.trans (Chg.off hO3 rfl);have HN3:=Lib.hid hN3;have HC3:=Lib.hid hC3;have HPUT:=Lib.hid hput;clear hN3 hO3 hC3 hCW hput hM2 hsx hsb hbx hrun hCi hMi hcells;go_wp2_with fail
     go_region
     all_goals
      go_wp2;go_roundw
      case rel=>exact⟨m+1,by go_num,by omega,HC3.out,by rw[HPUT.out];exact HN3.out⟩
      case measure=>simp[intOf];omega
    ·obtain rfl:m=L.length:=by omega
     rw[List.take_length,<-HNX.out] at hMi;have HCI:=Lib.hid hCi;have HMI:=Lib.hid hMi;clear hCi hMi;go_wp2;go_roundw
     case rel=>exact⟨k+1,by go_num,by omega,HCI.out,HMI.out⟩
     case measure=>simp[intOf];omega
  ·obtain rfl:k=n:=by omega
   have HC:=Lib.hid hC;have HMM:=Lib.hid hM;clear hC hM;go_wp2;exact⟨rfl,rfl,rfl,HC.out,HMM.out⟩
end
section
open Go.RowKit Go.Lib Go.Maps Dk Pl
def QO9(sb:Nat)(w:World):Exit->Act->World->Prop
 | .ret,a',w'=>a'.defers=[]/\a'.tmps[2]?=some (.pointer (some ⟨sb,0,none⟩))/\a'.tmps[3]?=some .nilIface/\w'=w
 | _,_,_=>False
theorem t13{sx sb:Nat}(T:Array Value)(hT:T.size=118)(h11:T[11]?=some (.pointer (some ⟨sx,0,none⟩)))(w:World)(hs:o7 w sx 32 #[.pointer (some ⟨sb,0,none⟩)]):(I5 13).wp Tryz.prog (QO9 sb w) ⟨T,[]⟩ w:=by
 rw[U0 (a1Y T hT) (k:=11) (G9 h11)];generalize (fun k=>T.getD k undef)=x;clear hT h11;have d0:w.cell? ⟨sx,0,none⟩=some (.pointer (some ⟨sb,0,none⟩)):=(hs.cell 0).trans rfl;unfold I5;simp only[Code.behind,Code.head,Tryz.f14,Option.getD_some,a5Y,up,reduceIte,Nat.reduceEqDiff];go_wp2;exact⟨rfl,rfl,rfl,rfl⟩
end
section
open Go.RowKit Go.Lib Pl
noncomputable def a1G(n:Nat):Code:=Code.behind n (Tryz.f59.body.getD .skip)
noncomputable def workR1:Code:=Code.head (a1G 1)
def vW(V0 V3 V4 V5:Value)(ib fb:Nat):Array Value:=#[V0,.pointer (some ⟨ib,0,none⟩),.pointer (some ⟨fb,0,none⟩),V3,V4,V5,undef,undef,undef,undef,undef,undef,undef,undef,undef,undef,undef,undef,undef,undef,undef,undef,undef,undef,undef,undef,undef,undef,undef]
def QW1(l:List UInt8)(i ib:Nat)(w:World):Exit->Act->World->Prop
 | .normal,a',w'=>a'.defers=[]/\a'.tmps.size=29/\a'.tmps[1]?=some (.pointer (some ⟨ib,0,none⟩))/\∃u,a'.tmps[6]?=some u/\w'.ownsRow w.heap.size 160 7 u (P7 l).length ((P7 l).flatMap (O5 i))/\Ext w w'
 | _,_,_=>False
theorem c4C(V0 V3 V4 V5:Value)(ib fb rb i n cap:Nat)(v:Value)(l:List UInt8)(w:World)(hib:w.cell? ⟨ib,0,none⟩=some (.int .i64 i))(hfb:w.cell? ⟨fb,0,none⟩=some (.slice (some ⟨rb,0,none⟩) n cap))(hi:i<n)(hcap:n<=cap)(hn:n<2147483648)
 (hc:w.cell? ⟨rb,i,none⟩=some v)(h:Bytes w v l)(hl:l.length<=1099511627776):
 workR1.wp Tryz.prog (QW1 l i ib w) ⟨vW V0 V3 V4 V5 ib fb,[]⟩ w:=by
 unfold workR1 a1G vW;simp only[Code.behind,Code.head,Tryz.f59,Option.getD_some];have hlt:(i:Int)<(n:Int):=by omega
 have h0:(0:Int)<=(i:Int):=by omega
 have d1:w.drew.cell? ⟨ib,0,none⟩=some (.int .i64 i):=hib;have d2:w.drew.cell? ⟨fb,0,none⟩=some (.slice (some ⟨rb,0,none⟩) n cap):=hfb;have d3:w.drew.cell? ⟨rb,i,none⟩=some v:=hc;have hB:Bytes w.drew v l:=h;have hsz:w.drew.heap.size=w.heap.size:=rfl;go_region_with (go_at_call 61;refine(b83 i v l _ ?_ hl).mono ?_;exact hB;rintro e w1 ⟨u,rfl,hown,hE⟩)
 all_goals exact⟨rfl,rfl,rfl,_,rfl,hown,Ext.trans (Below.drew (Ext.refl w)) hE⟩
end
end Go.Proofs.YtgpbhjjajpbeeaaGreatDoor
