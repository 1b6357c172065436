/- A part of what the last file proves. -/
import Derived.Test.YtgpbhjjajpbeeaaGreatDoorK18
import Derived.Conc.AtomicLaws
import Derived.Control
set_option linter.all false
set_option maxRecDepth 100000
set_option maxHeartbeats 6400000
namespace Go.Proofs.YtgpbhjjajpbeeaaGreatDoor
section
open Go.RowKit Go.Lib Go.Maps Dk Pl
theorem b6x:Extern.find Tryz.f118=some (Extern.Atomic.loadT (.int .i64)):=by rfl
theorem a9Y(b:Nat)(v:Int)(t:TypeId)(w:World)(h:w.heap[b]?=some (.cells #[.int .i64 v] t)):Calls Tryz.prog 64 #[.pointer (some ⟨b,0,none⟩)] w fun e w'=>e=.returned (.int .i64 v)/\w'=w:=by
 have hc:w.cell? ⟨b,0,none⟩=some (.int .i64 v):=by simp[World.cell?,h]
 have hcf:=run_call_load (P:=Tryz.prog) Tryz.func118 (by kernel_rfl) (by kernel_rfl) (by rfl) .i64 b6x hc;go_enter Tryz.func64,Tryz.ntmps64
 go_wp2;go_ret;exact⟨rfl,rfl⟩
def QO6(sx sb:Nat)(c0 c1 c2 c3 c4:Value)(v:Int)(al:Nat)(w:World):Exit->Act->World->Prop
 | .normal,a',w'=>a'.defers=[]/\a'.tmps.size=118/\a'.tmps[11]?=some (.pointer (some ⟨sx,0,none⟩))/\j6 w' sb 138 #[c0,c1,c2,c3,c4,.int .i64 v]/\Off sb w w'
 | _,_,_=>False
theorem b89(x:Nat->Value)(sx sb al:Nat)(c0 c1 c2 c3 c4 c5:Value)(v:Int)(t:TypeId)(w:World)(hs:j6 w sx 32 #[.pointer (some ⟨sb,0,none⟩)])(hb:j6 w sb 138 #[c0,c1,c2,c3,c4,c5])(ha:w.heap[al]?=some (.cells #[.int .i64 v] t)):
 (G7 10).wp Tryz.prog (QO6 sx sb c0 c1 c2 c3 c4 v al w) ⟨#[x 0,x 1,x 2,x 3,x 4,x 5,x 6,x 7,x 8,x 9,x 10,.pointer (some ⟨sx,0,none⟩),.pointer (some ⟨al,0,none⟩),x 13,x 14,x 15,x 16,x 17,x 18,x 19,x 20,x 21,x 22,x 23,x 24,x 25,x 26,x 27,x 28,x 29,x 30,x 31,x 32,x 33,x 34,x 35,x 36,x 37,x 38,x 39,x 40,x 41,x 42,x 43,x 44,x 45,x 46,x 47,x 48,x 49,x 50,x 51,x 52,x 53,x 54,x 55,x 56,x 57,x 58,x 59,x 60,x 61,x 62,x 63,x 64,x 65,x 66,x 67,x 68,x 69,x 70,x 71,x 72,x 73,x 74,x 75,x 76,x 77,x 78,x 79,x 80,x 81,x 82,x 83,x 84,x 85,x 86,x 87,x 88,x 89,x 90,x 91,x 92,x 93,x 94,x 95,x 96,x 97,x 98,x 99,x 100,x 101,x 102,x 103,x 104,x 105,x 106,x 107,x 108,x 109,x 110,x 111,x 112,x 113,x 114,x 115,x 116,x 117],[]⟩ w:=by
 have d0:w.drew.cell? ⟨sx,0,none⟩=some (.pointer (some ⟨sb,0,none⟩)):=(hs.cell 0).trans rfl;have d1:w.drew.cell? ⟨sb,5,none⟩=some c5:=(hb.cell 5).trans rfl;have f1:w.drew.frozen? ⟨sb,5,none⟩=false:=hb.free 5;have hO:=(Off.refl sb w.drew).setCell 5 (.int .i64 v);have hB:j6 (w.drew.setCell ⟨sb,5,none⟩ (.int .i64 v)) sb 138 #[c0,c1,c2,c3,c4,.int .i64 v]:=(show j6 w.drew sb 138 #[c0,c1,c2,c3,c4,c5] from hb).set 5 (.int .i64 v);have hld:=a9Y al v t w.drew ha;unfold G7 D8;simp only[Code.behind,Code.head,Tryz.f14,Option.getD_some];go_region_with (go_at_call 64;refine(a9Y al v t _ ?_).mono ?_;exact ha;rintro e w1 ⟨rfl,rfl⟩)
 all_goals
  have hO':=(Off.refl sb w).setCell 5 (.int .i64 v);exact⟨rfl,rfl,rfl,hB,⟨hO'.os,hO'.tape,hO'.output,hO'.size,hO'.block⟩⟩
abbrev Fd:=Nat×Nat×Rec
def fdV(q:Fd):Value:=.agg (I4 q.1 q.2).toArray
abbrev Y6(w:World)(r:Nat)(l:List (Nm×Fd)):Prop:=MapOf Tryz.prog 9 strV fdV w r l
def QO7(sx sb:Nat)(c0 c1 c2 c3:Value)(v:Int)(w:World):Exit->Act->World->Prop
 | .normal,a',w'=>a'.defers=[]/\a'.tmps.size=118/\a'.tmps[11]?=some (.pointer (some ⟨sx,0,none⟩))/\Chg (fun b=>b=sb) (fun b=>b=sb) w w'/\∃r,w.heap.size<=r/\j6 w' sb 138 #[c0,c1,c2,c3,.map (some r),.int .i64 v]/\Y6 w' r []
 | _,_,_=>False
theorem b9a(x:Nat->Value)(sx sb:Nat)(c0 c1 c2 c3 c4:Value)(v:Int)(w:World)(hs:j6 w sx 32 #[.pointer (some ⟨sb,0,none⟩)])(hb:j6 w sb 138 #[c0,c1,c2,c3,c4,.int .i64 v]):
 (G7 11).wp Tryz.prog (QO7 sx sb c0 c1 c2 c3 v w) ⟨#[x 0,x 1,x 2,x 3,x 4,x 5,x 6,x 7,x 8,x 9,x 10,.pointer (some ⟨sx,0,none⟩),x 12,x 13,x 14,x 15,x 16,x 17,x 18,x 19,x 20,x 21,x 22,x 23,x 24,x 25,x 26,x 27,x 28,x 29,x 30,x 31,x 32,x 33,x 34,x 35,x 36,x 37,x 38,x 39,x 40,x 41,x 42,x 43,x 44,x 45,x 46,x 47,x 48,x 49,x 50,x 51,x 52,x 53,x 54,x 55,x 56,x 57,x 58,x 59,x 60,x 61,x 62,x 63,x 64,x 65,x 66,x 67,x 68,x 69,x 70,x 71,x 72,x 73,x 74,x 75,x 76,x 77,x 78,x 79,x 80,x 81,x 82,x 83,x 84,x 85,x 86,x 87,x 88,x 89,x 90,x 91,x 92,x 93,x 94,x 95,x 96,x 97,x 98,x 99,x 100,x 101,x 102,x 103,x 104,x 105,x 106,x 107,x 108,x 109,x 110,x 111,x 112,x 113,x 114,x 115,x 116,x 117],[]⟩ w:=by
 have hmm:∀w:World,(Instr.makeMap 136 (some (.int .i64 v))).run Tryz.prog w=.ok (.map (some w.heap.size)) (w.alloc (.map #[] 0)):=fun w=>by
  simp[Instr.makeMap,run_underlying Tryz.underlying136,asInt,asIntOf,Result.andThen]
 have d0:w.drew.cell? ⟨sx,0,none⟩=some (.pointer (some ⟨sb,0,none⟩)):=(hs.cell 0).trans rfl;have d1:w.drew.cell? ⟨sb,5,none⟩=some (.int .i64 v):=(hb.cell 5).trans rfl;have d2:(w.drew.alloc (.map #[] 0)).cell? ⟨sx,0,none⟩=some (.pointer (some ⟨sb,0,none⟩)):=(World.cell?_alloc_lt _ _ _ hs.lt).trans d0;have d3:(w.drew.alloc (.map #[] 0)).cell? ⟨sb,4,none⟩=some c4:=(World.cell?_alloc_lt _ _ _ hb.lt).trans ((hb.cell 4).trans rfl);have e0:w.cell? ⟨sx,0,none⟩=some (.pointer (some ⟨sb,0,none⟩)):=d0;have e1:w.cell? ⟨sb,5,none⟩=some (.int .i64 v):=d1;have e2:(w.alloc (.map #[] 0)).drew.cell? ⟨sx,0,none⟩=some (.pointer (some ⟨sb,0,none⟩)):=d2;have e3:(w.alloc (.map #[] 0)).drew.cell? ⟨sb,4,none⟩=some c4:=d3;have hbn:j6 (w.alloc (.map #[] 0)) sb 138 #[c0,c1,c2,c3,c4,.int .i64 v]:=hb.alloc _;have f1:(w.alloc (.map #[] 0)).drew.frozen? ⟨sb,4,none⟩=false:=hbn.free 4;have f2:(w.drew.alloc (.map #[] 0)).frozen? ⟨sb,4,none⟩=false:=hbn.free 4;unfold G7 D8;simp only[Code.behind,Code.head,Tryz.f14,Option.getD_some];go_region
 have hO:=(Off.refl sb (w.alloc (.map #[] 0))).setCell 4 (.map (some w.heap.size));have hC:Chg (fun b=>b=sb) (fun b=>b=sb) w ((w.alloc (.map #[] 0)).setCell ⟨sb,4,none⟩ (.map (some w.heap.size))):=(Chg.ext ((Ext.refl w).new _)).trans (Chg.off hO rfl);have hM:Y6 ((w.alloc (.map #[] 0)).setCell ⟨sb,4,none⟩ (.map (some w.heap.size))) w.heap.size []:=(MapOf.made w).off hO (by have:=hb.lt;omega);exact⟨rfl,rfl,rfl,⟨hC.os,hC.tape,hC.output,hC.size,hC.block,hC.grow⟩,w.heap.size,Nat.le_refl _,hbn.set 4 _,hM⟩
end
section
open Go.RowKit Pl
def a1L(w:World)(e:TypeId)(size:Nat)(v:Value)(n:Nat)(xs:List Value):Prop:=
 xs.length=n*size/\((v=.slice none 0 0/\n=0)\/∃g cap cur fr,v=.slice (some ⟨g,0,none⟩) n cap/\w.heap[g]?=some (.cells cur e fr)/\n<=cap/\cap<=maxLen/\cur.size=cap*size/\cur.toList.take (n*size)=xs)
theorem a1L.slice{w:World}{e:TypeId}{size:Nat}{v:Value}{n:Nat}{xs:List Value}(h:a1L w e size v n xs):∃a c,v=.slice a n c:=by
 rcases h.2 with⟨rfl,rfl⟩|⟨g,cap,cur,fr,rfl,_⟩
 ·exact⟨none,0,rfl⟩
 ·exact⟨_,_,rfl⟩
theorem a1L.keep{w w':World}{e:TypeId}{size:Nat}{v:Value}{n:Nat}{xs:List Value}(h:a1L w e size v n xs)(he:∀g,v.ownBlock=some g->w'.heap[g]?=w.heap[g]?):a1L w' e size v n xs:=by
 refine⟨h.1,?_⟩;rcases h.2 with h|⟨g,cap,cur,fr,rfl,h2,h3⟩
 ·exact .inl h
 ·exact .inr ⟨g,cap,cur,fr,rfl,(he g rfl).trans h2,h3⟩
end
section
open Go.RowKit Go.Lib Go.Maps Dk Pl
def a2G(seg:Nat)(l:List (Nat×Rec))(m:List (Nm×Fd)):List (Nm×Fd):=l.foldl (fun m p=>a0w m p.2.key (seg,p)) m
theorem b2n(seg:Nat)(l:List (Nat×Rec))(p:Nat×Rec)(m:List (Nm×Fd)):a2G seg (l++[p]) m=a0w (a2G seg l m) p.2.key (seg,p):=by simp[a2G]
def a0h(bss:List (List UInt8)):Nat->List (Nm×Fd)
 | 0=>[]
 | k+1=>a2G k (A9 (bss.getD k [])) (a0h bss k)
def a0J(w:World)(Cb n:Nat)(ids:List Int)(bss:List (List UInt8)):Prop:=
 ∀i,i<n->w.cell? ⟨Cb,2*i,none⟩=some (.int .i64 (ids.getD i 0))/\∃u,w.cell? ⟨Cb,2*i+1,none⟩=some u/\a1L w 160 7 u (A9 (bss.getD i [])).length ((A9 (bss.getD i [])).flatMap (I4 i))
theorem b5l{w:World}{a:Addr}{v:Value}(h:w.cell? a=some v):a.block<w.heap.size:=by
 unfold World.cell? at h
 cases e:w.heap[a.block]? with
 | none=>rw[e] at h;cases h
 | some o=>exact lt_of_block e
theorem a1L.lt{w:World}{e:TypeId}{size:Nat}{v:Value}{n:Nat}{xs:List Value}(h:a1L w e size v n xs){g:Nat}(hg:v.ownBlock=some g):g<w.heap.size:=by
 rcases h.2 with⟨rfl,_⟩|⟨g',cap,cur,fr,rfl,h2,_⟩
 ·cases hg
 ·obtain rfl:g'=g:=by simpa [Value.ownBlock] using hg
  exact lt_of_block h2
theorem a1L.ne_map{w:World}{e:TypeId}{size:Nat}{v:Value}{n:Nat}{xs:List Value}(h:a1L w e size v n xs){g r:Nat}(hg:v.ownBlock=some g){es:Array MapEntry}{c:Nat}(hr:w.heap[r]?=some (.map es c)):g≠r:=by
 rintro rfl;rcases h.2 with⟨rfl,_⟩|⟨g',cap,cur,fr,rfl,h2,_⟩
 ·cases hg
 ·obtain rfl:g'=g:=by simpa [Value.ownBlock] using hg
  rw[hr] at h2;cases h2
theorem a1L.rec{w:World}{seg:Int}{u:Value}{l:List (Nat×Rec)}(h:a1L w 160 7 u l.length (l.flatMap (I4 seg))){j:Nat}(hj:j<l.length):
 ∃g cap,u=.slice (some ⟨g,0,none⟩) l.length cap/\l.length<=cap/\g<w.heap.size/\∀c x,(I4 seg l[j])[c]?=some x->w.cell? ⟨g,j*7+c,none⟩=some x:=by
 rcases h.2 with⟨_,h0⟩|⟨g,cap,cur,fr,rfl,hg,h1,h2,h3,h4⟩
 ·omega
 ·refine⟨g,cap,rfl,h1,lt_of_block hg,fun c x hx=>?_⟩;have hc:c<7:=by
   have:=(List.getElem?_eq_some_iff.1 hx).1;simpa [I4] using this
  have hlt:j*7+c<l.length*7:=by omega
  have e1:(l.flatMap (I4 seg))[j*7+c]?=some x:=by
   rw[<-hx];clear h h4 hx hg h3
   induction l generalizing j with
   | nil=>simp at hj
   | cons p l ih=>
    rw[List.flatMap_cons]
    cases j with
    | zero=>
     rw[List.getElem?_append_left (by simp[I4];omega)]
     simp
    | succ j=>
     rw[List.getElem?_append_right (by simp[I4];omega)];have e:(j+1)*7+c - (I4 seg p).length=j*7+c:=by simp[I4];omega
     rw[e];simp only[List.length_cons] at hj hlt;rw[ih (by omega) (by simp only[List.length_cons] at h1;omega) (by omega)];simp
  rw[<-h4,List.getElem?_take,if_pos hlt,Array.getElem?_toList] at e1;simp[World.cell?,hg,e1]
end
section
open Go.RowKit Go.Lib Go.Maps Dk Pl
def QO8(sx r:Nat)(bss:List (List UInt8))(n:Nat)(w:World):Exit->Act->World->Prop
 | .normal,a',w'=>a'.defers=[]/\a'.tmps.size=118/\a'.tmps[11]?=some (.pointer (some ⟨sx,0,none⟩))/\Chg (fun b=>b=r) (fun b=>b=r) w w'/\Y6 w' r (a0h bss n)
 | _,_,_=>False
theorem b5m{F:Nat->Prop}{w w':World}(h:Chg F F w w')(o:Obj):Chg F F w (w'.alloc o):=h.trans (Chg.ext ((Ext.refl w').new o))
theorem b5n{F:Nat->Prop}{w w':World}{n:Nat}{t:TypeId}{cs:Array Value}(h:Chg F F w w')(hb:j6 w n t cs)(hF:¬F n):j6 w' n t cs:=(h.block n hb.lt hF).trans hb
theorem b0Z:∀(n off:Nat)(l:List UInt8),∀p∈J3 n off l,p.2.key.length<=16:=by
 intro n
 induction n with
 | zero=>intro off l p hp;cases hp
 | succ n ih=>
  intro off l p hp;unfold J3 at hp
  cases hd:dec (l.drop off) with
  | none=>rw[hd] at hp;cases hp
  | some r=>
   rw[hd] at hp;rcases List.mem_cons.1 hp with rfl|hp
   ·unfold dec at hd;split at hd
    ·rename_i hg;injection hd with hd;subst hd;unfold good at hg;simp only[Bool.and_eq_true,decide_eq_true_eq] at hg;have:=hg.2.2.2.1;show(List.take _ _).length<=16;rw[List.length_take];omega
    ·cases hd
   ·exact ih _ _ p hp
theorem a9Z(l:List UInt8):∀p∈A9 l,p.2.key.length<=16:=b0Z _ _ _
theorem b9b(x:Nat->Value)(sx sb Cb r n n':Nat)(c0 c1 c2 c5:Value)(ids:List Int)(bss:List (List UInt8))(w:World)(hs:j6 w sx 32 #[.pointer (some ⟨sb,0,none⟩)])(hb:j6 w sb 138 #[c0,c1,c2,.slice (some ⟨Cb,0,none⟩) n n',.map (some r),c5])
 (hn:n<=n'/\n<=1000000)(hS:a0J w Cb n ids bss)(hM:Y6 w r [])(hrs:r≠sx/\r≠sb):
 (G7 12).wp Tryz.prog (QO8 sx r bss n w) ⟨#[x 0,x 1,x 2,x 3,x 4,x 5,x 6,x 7,x 8,x 9,x 10,.pointer (some ⟨sx,0,none⟩),x 12,x 13,x 14,x 15,x 16,x 17,x 18,x 19,x 20,x 21,x 22,x 23,x 24,x 25,x 26,x 27,x 28,x 29,x 30,x 31,x 32,x 33,x 34,x 35,x 36,x 37,x 38,x 39,x 40,x 41,x 42,x 43,x 44,x 45,x 46,x 47,x 48,x 49,x 50,x 51,x 52,x 53,x 54,x 55,x 56,x 57,x 58,x 59,x 60,x 61,x 62,x 63,x 64,x 65,x 66,x 67,x 68,x 69,x 70,x 71,x 72,x 73,x 74,x 75,x 76,x 77,x 78,x 79,x 80,x 81,x 82,x 83,x 84,x 85,x 86,x 87,x 88,x 89,x 90,x 91,x 92,x 93,x 94,x 95,x 96,x 97,x 98,x 99,x 100,x 101,x 102,x 103,x 104,x 105,x 106,x 107,x 108,x 109,x 110,x 111,x 112,x 113,x 114,x 115,x 116,x 117],[]⟩ w:=by
 have d0:w.cell? ⟨sx,0,none⟩=some (.pointer (some ⟨sb,0,none⟩)):=(hs.cell 0).trans rfl;have d1:w.cell? ⟨sb,3,none⟩=some (.slice (some ⟨Cb,0,none⟩) n n'):=(hb.cell 3).trans rfl;have HS:=Lib.hid hS;have HM:=Lib.hid hM;have HSX:=Lib.hid hs;have HSB:=Lib.hid hb;clear hS hM hs hb;unfold G7 D8;simp only[Code.behind,Code.head,Tryz.f14,Option.getD_some];go_wp2;go_loopw [96] (fun i wr=>∃k:Nat,i=.int .i64 k/\k<=n/\Chg (fun b=>b=r) (fun b=>b=r) w wr/\Y6 wr r (a0h bss k)) (fun i _=>n - (intOf i).toNat)
 case atStart=>exact⟨0,rfl,by omega,.refl _ w,HM.out⟩
 case round=>
  obtain⟨k,rfl,hk,hC,hM⟩:=hrel;by_cases hlt:k<n
  ·obtain⟨es,ck,hes,-⟩:=HM.out;obtain⟨s1,u,s2,hrow⟩:=HS.out k hlt;obtain⟨ua,uc,rfl⟩:=hrow.slice;have hCbl:=b5l s1;have hCb:Cb≠r:=by
    rintro rfl;simp[World.cell?,hes] at s1
   have s1':wr.cell? ⟨Cb,k*2,none⟩=some (.int .i64 (ids.getD k 0)):=by rw[Nat.mul_comm];exact(World.cell?_of_block (hC.block Cb hCbl hCb)).trans s1
   have s2':wr.cell? ⟨Cb,k*2+1,none⟩=some (.slice ua (A9 (bss.getD k [])).length uc):=by rw[Nat.mul_comm];exact(World.cell?_of_block (hC.block Cb hCbl hCb)).trans s2
   have hki:(k:Int)<(n:Int):=by omega
   have hLm:(A9 (bss.getD k [])).length<=maxLen:=by
    rcases hrow.2 with⟨_,h⟩|⟨g,cap,cur,fr,hv,_,h1,h2,_⟩
    ·rw[h];exact Nat.zero_le _
    ·exact Nat.le_trans h1 h2
   unfold maxLen at hLm;obtain⟨L,hL⟩:∃L,A9 (bss.getD k [])=L:=⟨_,rfl⟩;have hkey:∀p∈L,p.2.key.length<=16:=fun p hp=>a9Z _ p (hL▸hp);have hnext:a0h bss (k+1)=a2G k L (a0h bss k):=by rw[<-hL];rfl
   rw[hL] at hrow s2' hLm;have HR:=Lib.hid hrow;have HC:=Lib.hid hC;have HMM:=Lib.hid hM;have HES:=Lib.hid hes;have HKEY:=Lib.hid hkey;have HNX:=Lib.hid hnext;clear hrow hC hM s1 s2 hes hkey hnext hL;go_wp2_with fail
   go_loopw [103] (fun j wi=>∃m:Nat,j=.int .i64 m/\m<=L.length/\Chg (fun b=>b=r) (fun b=>b=r) w wi/\Y6 wi r (a2G k (L.take m) (a0h bss k))) (fun j _=>L.length - (intOf j).toNat)
   case atStart=>exact⟨0,rfl,by omega,b5m HC.out _,(HMM.out).ext ((Ext.refl wr).new _)⟩
   case round=>
    rename World=>wi
    obtain⟨m,rfl,hm,hCi,hMi⟩:=hrel;by_cases hml:m<L.length
    ·obtain⟨g,cap,hu,hcap,hgl,hcells⟩:=a1L.rec (HR.out.keep fun g hg=>hCi.block g (HR.out.lt hg) (HR.out.ne_map hg HES.out)) hml;injection hu with h1 h2 h3;subst h1;subst h3;have hmi:(m:Int)<(L.length:Int):=by omega
     have q0:=hcells 0 _ rfl;have q1:=hcells 1 _ rfl;have q2:=hcells 2 _ rfl;have q3:=hcells 3 _ rfl;have q4:=hcells 4 _ rfl;have q5:=hcells 5 _ rfl;have q6:=hcells 6 _ rfl;rw[Nat.add_zero] at q0;have hkl:=HKEY.out _ (List.getElem_mem hml);have hbx:j6 (wi.alloc (.cells #[.int .i64 k,.int .i64 L[m].1,.int .i64 L[m].2.size,.int .u64 L[m].2.seq,.string ⟨L[m].2.key.toArray⟩,.string ⟨L[m].2.val.toArray⟩,.bool L[m].2.del] 160)) wi.heap.size 160 #[.int .i64 k,.int .i64 L[m].1,.int .i64 L[m].2.size,.int .u64 L[m].2.seq,.string ⟨L[m].2.key.toArray⟩,.string ⟨L[m].2.val.toArray⟩,.bool L[m].2.del]:=j6.new _ _ rfl;have hsx:=(b5n hCi HSX.out (Ne.symm hrs.1)).alloc (.cells #[.int .i64 k,.int .i64 L[m].1,.int .i64 L[m].2.size,.int .u64 L[m].2.seq,.string ⟨L[m].2.key.toArray⟩,.string ⟨L[m].2.val.toArray⟩,.bool L[m].2.del] 160);have hsb:=(b5n hCi HSB.out (Ne.symm hrs.2)).alloc (.cells #[.int .i64 k,.int .i64 L[m].1,.int .i64 L[m].2.size,.int .u64 L[m].2.seq,.string ⟨L[m].2.key.toArray⟩,.string ⟨L[m].2.val.toArray⟩,.bool L[m].2.del] 160);have a0:(wi.alloc (.cells #[.int .i64 k,.int .i64 L[m].1,.int .i64 L[m].2.size,.int .u64 L[m].2.seq,.string ⟨L[m].2.key.toArray⟩,.string ⟨L[m].2.val.toArray⟩,.bool L[m].2.del] 160)).drew.cell? ⟨sx,0,none⟩=some (.pointer (some ⟨sb,0,none⟩)):=(hsx.cell 0).trans rfl;have a1:(wi.alloc (.cells #[.int .i64 k,.int .i64 L[m].1,.int .i64 L[m].2.size,.int .u64 L[m].2.seq,.string ⟨L[m].2.key.toArray⟩,.string ⟨L[m].2.val.toArray⟩,.bool L[m].2.del] 160)).drew.cell? ⟨sb,4,none⟩=some (.map (some r)):=(hsb.cell 4).trans rfl;have b0:(wi.alloc (.cells #[.int .i64 k,.int .i64 L[m].1,.int .i64 L[m].2.size,.int .u64 L[m].2.seq,.string ⟨L[m].2.key.toArray⟩,.string ⟨L[m].2.val.toArray⟩,.bool L[m].2.del] 160)).drew.cell? ⟨wi.heap.size,0,none⟩=some (.int .i64 k):=(hbx.cell 0).trans rfl;have b1:(wi.alloc (.cells #[.int .i64 k,.int .i64 L[m].1,.int .i64 L[m].2.size,.int .u64 L[m].2.seq,.string ⟨L[m].2.key.toArray⟩,.string ⟨L[m].2.val.toArray⟩,.bool L[m].2.del] 160)).drew.cell? ⟨wi.heap.size,1,none⟩=some (.int .i64 L[m].1):=(hbx.cell 1).trans rfl;have b2:(wi.alloc (.cells #[.int .i64 k,.int .i64 L[m].1,.int .i64 L[m].2.size,.int .u64 L[m].2.seq,.string ⟨L[m].2.key.toArray⟩,.string ⟨L[m].2.val.toArray⟩,.bool L[m].2.del] 160)).drew.cell? ⟨wi.heap.size,2,none⟩=some (.int .i64 L[m].2.size):=(hbx.cell 2).trans rfl;have b3:(wi.alloc (.cells #[.int .i64 k,.int .i64 L[m].1,.int .i64 L[m].2.size,.int .u64 L[m].2.seq,.string ⟨L[m].2.key.toArray⟩,.string ⟨L[m].2.val.toArray⟩,.bool L[m].2.del] 160)).drew.cell? ⟨wi.heap.size,3,none⟩=some (.int .u64 L[m].2.seq):=(hbx.cell 3).trans rfl;have b4:(wi.alloc (.cells #[.int .i64 k,.int .i64 L[m].1,.int .i64 L[m].2.size,.int .u64 L[m].2.seq,.string ⟨L[m].2.key.toArray⟩,.string ⟨L[m].2.val.toArray⟩,.bool L[m].2.del] 160)).drew.cell? ⟨wi.heap.size,4,none⟩=some (.string ⟨L[m].2.key.toArray⟩):=(hbx.cell 4).trans rfl;have b5:(wi.alloc (.cells #[.int .i64 k,.int .i64 L[m].1,.int .i64 L[m].2.size,.int .u64 L[m].2.seq,.string ⟨L[m].2.key.toArray⟩,.string ⟨L[m].2.val.toArray⟩,.bool L[m].2.del] 160)).drew.cell? ⟨wi.heap.size,5,none⟩=some (.string ⟨L[m].2.val.toArray⟩):=(hbx.cell 5).trans rfl;have b6:(wi.alloc (.cells #[.int .i64 k,.int .i64 L[m].1,.int .i64 L[m].2.size,.int .u64 L[m].2.seq,.string ⟨L[m].2.key.toArray⟩,.string ⟨L[m].2.val.toArray⟩,.bool L[m].2.del] 160)).drew.cell? ⟨wi.heap.size,6,none⟩=some (.bool L[m].2.del):=(hbx.cell 6).trans rfl;have hM2:Y6 (wi.alloc (.cells #[.int .i64 k,.int .i64 L[m].1,.int .i64 L[m].2.size,.int .u64 L[m].2.seq,.string ⟨L[m].2.key.toArray⟩,.string ⟨L[m].2.val.toArray⟩,.bool L[m].2.del] 160)).drew r (a2G k (L.take m) (a0h bss k)):=hMi.ext (Below.drew ((Ext.refl wi).new _));obtain⟨w3,hrun,hN3,hO3⟩:=hM2.store a2f a2e Tryz.underlying136 (a5L (l:=L[m].2.key) (by unfold maxLen;omega)) ((k,L[m]):Fd);have hrun3:(Instr.mapUpdate 136 (.map (some r)) (.string ⟨L[m].2.key.toArray⟩) (.agg #[.int .i64 k,.int .i64 L[m].1,.int .i64 L[m].2.size,.int .u64 L[m].2.seq,.string ⟨L[m].2.key.toArray⟩,.string ⟨L[m].2.val.toArray⟩,.bool L[m].2.del])).run Tryz.prog (wi.alloc (.cells #[.int .i64 k,.int .i64 L[m].1,.int .i64 L[m].2.size,.int .u64 L[m].2.seq,.string ⟨L[m].2.key.toArray⟩,.string ⟨L[m].2.val.toArray⟩,.bool L[m].2.del] 160)).drew=.ok () w3:=hrun;have hput:a2G k (L.take (m+1)) (a0h bss k)=a0w (a2G k (L.take m) (a0h bss k)) L[m].2.key (k,L[m]):=by
      rw[L8 L m hml,b2n]
     have hCW:Chg (fun b=>b=r) (fun b=>b=r) w (wi.alloc (.cells #[.int .i64 k,.int .i64 L[m].1,.int .i64 L[m].2.size,.int .u64 L[m].2.seq,.string ⟨L[m].2.key.toArray⟩,.string ⟨L[m].2.val.toArray⟩,.bool L[m].2.del] 160)).drew:=by
      have:=b5m hCi (.cells #[.int .i64 k,.int .i64 L[m].1,.int .i64 L[m].2.size,.int .u64 L[m].2.seq,.string ⟨L[m].2.key.toArray⟩,.string ⟨L[m].2.val.toArray⟩,.bool L[m].2.del] 160);exact⟨this.os,this.tape,this.output,this.size,this.block,this.grow⟩
     have hC3:=hCW.trans (Chg.off hO3 rfl);have HN3:=Lib.hid hN3;have HC3:=Lib.hid hC3;have HPUT:=Lib.hid hput;clear hN3 hO3 hC3 hCW hput hM2 hsx hsb hbx hrun hCi hMi hcells;go_wp2_with fail
     go_region
     all_goals
      go_wp2;go_roundw
      case rel=>exact⟨m+1,by go_num,by omega,HC3.out,by rw[HPUT.out];exact HN3.out⟩
      case measure=>simp[intOf];omega
    ·obtain rfl:m=L.length:=by omega
     rw[List.take_length,<-HNX.out] at hMi;have HCI:=Lib.hid hCi;have HMI:=Lib.hid hMi;clear hCi hMi;go_wp2;go_roundw
     case rel=>exact⟨k+1,by go_num,by omega,HCI.out,HMI.out⟩
     case measure=>simp[intOf];omega
  ·obtain rfl:k=n:=by omega
   have HC:=Lib.hid hC;have HMM:=Lib.hid hM;clear hC hM;go_wp2;exact⟨rfl,rfl,rfl,HC.out,HMM.out⟩
end
section
open Go.RowKit Go.Lib Go.Maps Dk Pl
def QO9(sb:Nat)(w:World):Exit->Act->World->Prop
 | .ret,a',w'=>a'.defers=[]/\a'.tmps[2]?=some (.pointer (some ⟨sb,0,none⟩))/\a'.tmps[3]?=some .nilIface/\w'=w
 | _,_,_=>False
theorem b9c(x:Nat->Value)(sx sb:Nat)(w:World)(hs:j6 w sx 32 #[.pointer (some ⟨sb,0,none⟩)]):
 (D8 13).wp Tryz.prog (QO9 sb w) ⟨#[x 0,x 1,x 2,x 3,x 4,x 5,x 6,x 7,x 8,x 9,x 10,.pointer (some ⟨sx,0,none⟩),x 12,x 13,x 14,x 15,x 16,x 17,x 18,x 19,x 20,x 21,x 22,x 23,x 24,x 25,x 26,x 27,x 28,x 29,x 30,x 31,x 32,x 33,x 34,x 35,x 36,x 37,x 38,x 39,x 40,x 41,x 42,x 43,x 44,x 45,x 46,x 47,x 48,x 49,x 50,x 51,x 52,x 53,x 54,x 55,x 56,x 57,x 58,x 59,x 60,x 61,x 62,x 63,x 64,x 65,x 66,x 67,x 68,x 69,x 70,x 71,x 72,x 73,x 74,x 75,x 76,x 77,x 78,x 79,x 80,x 81,x 82,x 83,x 84,x 85,x 86,x 87,x 88,x 89,x 90,x 91,x 92,x 93,x 94,x 95,x 96,x 97,x 98,x 99,x 100,x 101,x 102,x 103,x 104,x 105,x 106,x 107,x 108,x 109,x 110,x 111,x 112,x 113,x 114,x 115,x 116,x 117],[]⟩ w:=by
 have d0:w.cell? ⟨sx,0,none⟩=some (.pointer (some ⟨sb,0,none⟩)):=(hs.cell 0).trans rfl;unfold D8;simp only[Code.behind,Code.head,Tryz.f14,Option.getD_some];go_wp2;exact⟨rfl,rfl,rfl,rfl⟩
end
section
open Go.RowKit Go.Lib Pl
noncomputable def a1b(n:Nat):Code:=Code.behind n (Tryz.f59.body.getD .skip)
noncomputable def workR1:Code:=Code.head (a1b 1)
def vW(V0 V3 V4 V5:Value)(ib fb:Nat):Array Value:=#[V0,.pointer (some ⟨ib,0,none⟩),.pointer (some ⟨fb,0,none⟩),V3,V4,V5,undef,undef,undef,undef,undef,undef,undef,undef,undef,undef,undef,undef,undef,undef,undef,undef,undef,undef,undef,undef,undef,undef,undef]
def QW1(l:List UInt8)(i ib:Nat)(w:World):Exit->Act->World->Prop
 | .normal,a',w'=>a'.defers=[]/\a'.tmps.size=29/\a'.tmps[1]?=some (.pointer (some ⟨ib,0,none⟩))/\∃u,a'.tmps[6]?=some u/\w'.ownsRow w.heap.size 160 7 u (A9 l).length ((A9 l).flatMap (I4 i))/\Ext w w'
 | _,_,_=>False
theorem c4v(V0 V3 V4 V5:Value)(ib fb rb i n cap:Nat)(v:Value)(l:List UInt8)(w:World)(hib:w.cell? ⟨ib,0,none⟩=some (.int .i64 i))(hfb:w.cell? ⟨fb,0,none⟩=some (.slice (some ⟨rb,0,none⟩) n cap))(hi:i<n)(hcap:n<=cap)(hn:n<2147483648)
 (hc:w.cell? ⟨rb,i,none⟩=some v)(h:Bytes w v l)(hl:l.length<=1099511627776):
 workR1.wp Tryz.prog (QW1 l i ib w) ⟨vW V0 V3 V4 V5 ib fb,[]⟩ w:=by
 unfold workR1 a1b vW;simp only[Code.behind,Code.head,Tryz.f59,Option.getD_some];have hlt:(i:Int)<(n:Int):=by omega
 have h0:(0:Int)<=(i:Int):=by omega
 have d1:w.drew.cell? ⟨ib,0,none⟩=some (.int .i64 i):=hib;have d2:w.drew.cell? ⟨fb,0,none⟩=some (.slice (some ⟨rb,0,none⟩) n cap):=hfb;have d3:w.drew.cell? ⟨rb,i,none⟩=some v:=hc;have hB:Bytes w.drew v l:=h;have hsz:w.drew.heap.size=w.heap.size:=rfl;go_region_with (go_at_call 61;refine(b9f i v l _ ?_ hl).mono ?_;exact hB;rintro e w1 ⟨u,rfl,hown,hE⟩)
 all_goals exact⟨rfl,rfl,rfl,_,rfl,hown,Ext.trans (Below.drew (Ext.refl w)) hE⟩
end
end Go.Proofs.YtgpbhjjajpbeeaaGreatDoor
namespace Go.Zn
section
variable{P:Program}
def Nx(P:Program)(fr:Frame)(l:List Frame)(w:World)(fr':Frame)(l':List Frame)(w':World)(es:Array Event):Prop:=
 ∀κ cs,stepG P true (Gr fr l κ cs) w=.go (Gr fr' l' κ cs) w' es
inductive Goe(P:Program)(Z:Zone)(Sh:Nat->Prop)(X:Tmp->Prop)(A:Frame->World->Prop):Frame->List Frame->World->Prop
 | stop (fr:Frame) (w:World) (hI:Inv Z Sh X fr [] w) (τ:Nat->Question->Nat) (p:Nat) (h:A (ext fr K0) (tp w τ p)):Goe P Z Sh X A fr [] w
 | step (fr:Frame) (l:List Frame) (w:World) (hI:Inv Z Sh X fr l w) (F:(Nat->Question->Nat)->Nat->Frame) (L:(Nat->Question->Nat)->Nat->List Frame) (W:(Nat->Question->Nat)->Nat->World) (E:(Nat->Question->Nat)->Nat->Array Event)
  (h:∀τ p,Nx P fr l (tp w τ p) (F τ p) (L τ p) (W τ p) (E τ p))(hs:∀τ p,w.heap.size<=(W τ p).heap.size)
  (he:∀τ p,∀e∈E τ p,EvOK (Zf Z Sh (W τ p).heap.size) (W τ p).heap.size e)(k:∀τ p,Goe P Z Sh X A (F τ p) (L τ p) (W τ p)):Goe P Z Sh X A fr l w
theorem Goe.inv{Z:Zone}{Sh:Nat->Prop}{X:Tmp->Prop}{A:Frame->World->Prop}{fr:Frame}{l:List Frame}{w:World}(h:Goe P Z Sh X A fr l w):Inv Z Sh X fr l w:=by
 cases h<;>assumption
theorem Goe.of_next{Z:Zone}{Sh:Nat->Prop}{X:Tmp->Prop}{A:Frame->World->Prop}{fr:Frame}{l:List Frame}{w:World}(hI:Inv Z Sh X fr l w)
 (h:∀τ p,∃fr' l' w' es,Nx P fr l (tp w τ p) fr' l' w' es/\w.heap.size<=w'.heap.size/\(∀e∈es,EvOK (Zf Z Sh w'.heap.size) w'.heap.size e)/\Goe P Z Sh X A fr' l' w'):Goe P Z Sh X A fr l w:=by
 have h1:=fun τ p=>Classical.choose_spec (h τ p);have h2:=fun τ p=>Classical.choose_spec (h1 τ p);have h3:=fun τ p=>Classical.choose_spec (h2 τ p);have h4:=fun τ p=>Classical.choose_spec (h3 τ p);exact .step fr l w hI _ _ _ _ (fun τ p=>(h4 τ p).1) (fun τ p=>(h4 τ p).2.1) (fun τ p=>(h4 τ p).2.2.1) (fun τ p=>(h4 τ p).2.2.2)
def c0:Frame:={fn:=0,tmps:=#[],todo:=K0,defers:=[{target:=.nil,args:=#[]}],mode:=.run,kind:=.normal}
def a5s(A:Frame->World->Prop)(m:Machine):Prop:=∃F w,m=lone F [c0] w/\A F w
def Dead(P:Program)(A:Frame->World->Prop)(m:Machine):Prop:=∀i m',runN P i m=.next m'->¬a5s A m'
section
variable{A:Frame->World->Prop}
theorem Dead.of_step{m:Machine}(h0:¬a5s A m)(h:∀m',step P m=.next m'->Dead P A m'):Dead P A m:=by
 intro i m' hr
 cases i with
 | zero=>
  simp only[runN] at hr;injection hr with hr
  exact hr▸h0
 | succ i=>
  simp only[runN] at hr
  cases hs:step P m with
  | next m₁=>rw[hs] at hr;exact h m₁ hs i m' hr
  | ended o w=>rw[hs] at hr;cases hr
theorem a05{F F':Frame}{cs cs':List Frame}{w w':World}(h:lone F cs w=lone F' cs' w'):F=F'/\cs=cs'/\w=w':=by
 unfold lone at h;injection h with h1 h2 h3;simp only[Array.mk.injEq,List.cons.injEq,Goroutine.mk.injEq] at h2;exact⟨h2.1.1,h2.1.2.1,h1⟩
theorem J7{F:Frame}{cs:List Frame}{w:World}(h0:¬a5s A (lone F cs w)){s:GStep}(hs:stepG P true {frame:=F,callers:=cs,status:=.running,dying:=none} w=s)(h:Stops s):Dead P A (lone F cs w):=by
 cases s<;>first|exact(h:False).elim|skip
 rename_i o w' es;refine Dead.of_step h0 fun m' hm=>?_;rw[step_lone_ended (o:=o) (w':=w') (by rw[hs];rfl)] at hm;cases hm
theorem a0D{F F':Frame}{cs cs':List Frame}{w w':World}{es:Array Event}(h0:¬a5s A (lone F cs w))(hs:stepG P true {frame:=F,callers:=cs,status:=.running,dying:=none} w=.go {frame:=F',callers:=cs',status:=.running,dying:=none} w' es)
 (h:Dead P A (lone F' cs' w')):Dead P A (lone F cs w):=by
 refine Dead.of_step h0 fun m' hm=>?_;rw[step_lone_go (fr':=F') (cs':=cs') (w':=w') (by rw[hs];rfl)] at hm;injection hm with hm;exact hm▸h
variable(hA:∀F w,A F w->∀c,F.mode≠.panicking c)
include hA
theorem M6{F:Frame}{cs:List Frame}{w:World}{c:List PanicEntry}(h:F.mode=.panicking c):¬a5s A (lone F cs w):=by
 rintro⟨F',w',e,ha⟩;obtain⟨rfl,-,-⟩:=a05 e;exact hA _ _ ha c h
omit hA in
theorem a2P{F:Frame}{w:World}:¬a5s A (lone F [] w):=by
 rintro⟨F',w',e,ha⟩;obtain⟨-,h,-⟩:=a05 e;cases h
omit hA in
theorem a0m{F:Frame}{cs:List Frame}{w:World}{c:List PanicEntry}(h:F.mode=.panicking c):stepG P true {frame:=F,callers:=cs,status:=.running,dying:=none} w=unwind P true F cs none w:=by
 unfold stepG;dsimp only;rw[h]
omit hA in
theorem a18{w:World}{c:List PanicEntry}:Dead P A (lone (c0.raise c) [] w):=by
 refine J7 a2P (a0m (c:=c) rfl) ?_;unfold unwind c0 Frame.raise;dsimp only;unfold callDeferred;dsimp only;exact trivial
variable{Z:Zone}{Sh:Nat->Prop}{X:Tmp->Prop}
theorem a8G(l:List Frame)(hnext:∀(c:List PanicEntry)(w:World),b1E (Zf Z Sh w.heap.size) X l->WPs Z Sh w->match (generalizing:=false) low l K0 [c0] with
 | []=>True
 | x::r=>Dead P A (lone (x.raise c) r w)) (hne:low l K0 [c0]≠[]):
 ∀(n:Nat)(fr:Frame)(w:World)(c:List PanicEntry),fr.defers.length=n->fr.mode=.panicking c->MarksP (Zf Z Sh w.heap.size) fr.defers->b1E (Zf Z Sh w.heap.size) X l->WPs Z Sh w->
 Dead P A (lone (ext fr (kk l K0)) (low l K0 [c0]) w):=by
 intro n
 induction n with
 | zero=>
  intro fr w c hn hm hd hl hW;have hd0:fr.defers=[]:=List.length_eq_zero_iff.1 hn;have hst:=a0m (P:=P) (F:=ext fr (kk l K0)) (cs:=low l K0 [c0]) (w:=w) (c:=c) hm;have hx:=hnext c w hl hW
  cases hlow:low l K0 [c0] with
  | nil=>exact absurd hlow hne
  | cons x r=>
   rw[hlow] at hst hx;by_cases hc:(ext fr (kk l K0)).catches P=true
   ·refine J7 (M6 hA hm) hst ?_;unfold unwind;rw[show(ext fr (kk l K0)).defers=[] from hd0,show(ext fr (kk l K0)).mode=.panicking c from hm];dsimp only;rw[if_pos hc];trivial
   ·refine a0D (M6 hA hm) (F':=x.raise c) (cs':=r) (w':=w) (es:=#[]) (hst.trans ?_) hx;unfold unwind;rw[show(ext fr (kk l K0)).defers=[] from hd0,show(ext fr (kk l K0)).mode=.panicking c from hm];dsimp only
    rw[if_neg hc]
 | succ n ih=>
  intro fr w c hn hm hd hl hW;have hst:=a0m (P:=P) (F:=ext fr (kk l K0)) (cs:=low l K0 [c0]) (w:=w) (c:=c) hm
  cases hds:fr.defers with
  | nil=>rw[hds] at hn;cases hn
  | cons d ds=>
   obtain⟨r,rfl,hr⟩:=hd d (by rw[hds];simp);rcases both (fun Z' hZ=>a3f (P:=P) (hZ.D _ hr)) hW with⟨v,u,es,k1,ha,hT,rfl,hW',hsz,hev⟩|⟨x,w',es,k1,ha,hT,hok,hsz,hW'⟩
   ·have e1:=hT w.tape w.drawn fun _ _ _=>rfl;rw[tp_self] at e1;refine a0D (M6 hA hm) (F':=ext {fr with defers:=ds} (kk l K0)) (cs':=low l K0 [c0]) (w':=tp u w.tape (w.drawn+k1)) (es:=seen P fr.fn es++#[]) (hst.trans ?_) (ih {fr with defers:=ds} _ c (by rw[hds] at hn;simpa using hn) hm (fun d hd'=>?_) (hl.mono (le_zf hsz)) (hW'.tp _ _))
    ·unfold unwind;rw[show(ext fr (kk l K0)).defers=_ from hds];dsimp only;rw[e1];rfl
    ·exact MarksP.mono (le_zf hsz) hd d (by rw[hds];exact List.mem_cons_of_mem _ hd')
   ·have e1:=hT w.tape w.drawn fun _ _ _=>rfl;rw[tp_self] at e1;refine J7 (M6 hA hm) hst ?_;unfold unwind;rw[show(ext fr (kk l K0)).defers=_ from hds];dsimp only;rw[e1];trivial
theorem b4J:∀(l:List Frame)(fr:Frame)(w:World)(c:List PanicEntry),fr.mode=.panicking c->MarksP (Zf Z Sh w.heap.size) fr.defers->b1E (Zf Z Sh w.heap.size) X l->WPs Z Sh w->
 Dead P A (lone (ext fr (kk l K0)) (low l K0 [c0]) w):=by
 intro l
 induction l with
 | nil=>exact fun fr w c hm hd hl hW=>a8G hA [] (fun c w _ _=>a18) (by simp[low]) _ fr w c rfl hm hd hl hW
 | cons x l ih=>
  refine fun fr w c hm hd hl hW=>a8G hA (x::l) (fun c w hl hW=>?_) (by simp[low]) _ fr w c rfl hm hd hl hW;show Dead P A (lone ((ext x (kk l K0)).raise c) (low l K0 [c0]) w);rw[a0Q];obtain⟨c',hc',hd'⟩:=raise_mode x c;exact ih _ w c' hc' (by rw[hd'];exact hl.1.1.1.defers) hl.2 hW
theorem b7M{fr:Frame}{w:World}(hI:Inv Z Sh X fr [] w)(hs:Stop fr [])(hn:¬A (ext fr K0) w):Dead P A (lone (ext fr K0) [c0] w):=by
 have h0:¬a5s A (lone (ext fr K0) [c0] w):=by
  rintro⟨F',w',e,ha⟩;obtain⟨rfl,-,rfl⟩:=a05 e;exact hn ha
 have hk:=hI.fr.1.kind;have hdead:∀(v:Value)(w:World),Dead P A (lone (c0.finish v) [] w):=fun v w=>J7 a2P rfl (by
  unfold stepG c0 Frame.finish K0;dsimp only;unfold stepG.exec;trivial)
 rcases hs.2 with⟨hm,ht⟩|⟨hm,hd⟩
 ·refine J7 h0 rfl ?_;obtain⟨fn,tmps,todo,defers,mode,kind,roundOf⟩:=fr;dsimp only at hm ht;subst hm ht;trivial
 ·have hst:stepG P true {frame:=ext fr K0,callers:=[c0],status:=.running,dying:=none} w=unwind P true (ext fr K0) [c0] none w:=by
   unfold stepG;dsimp only;rw[show(ext fr K0).mode=.returning from hm]
  have ed:(ext fr K0).defers=[]:=hd;have em:(ext fr K0).mode=.returning:=hm;have ek:(ext fr K0).kind=.normal:=hk
  cases hfn:P.funcs[fr.fn]? with
  | none=>
   refine a0D h0 (hst.trans ?_) (hdead ((ext fr K0).tmps.getD 0 undef) w) (es:=#[]);unfold unwind;rw[ed,em];dsimp only;rw[show(ext fr K0).fn=fr.fn from rfl,hfn];dsimp only;unfold doReturn
   rw[ek]
  | some fn=>
   cases hr:(results fn (ext fr K0).tmps).runT P w #[] with
   | mk r es=>
   cases r with
   | ok v u=>
    refine a0D h0 (hst.trans ?_) (hdead v u) (es:=seen P fr.fn es++#[]);unfold unwind;rw[ed,em];dsimp only;rw[show(ext fr K0).fn=fr.fn from rfl,hfn];dsimp only;rw[hr];dsimp only;unfold doReturn;rw[ek]
    rfl
   | halt x u=>
    refine J7 h0 hst ?_;unfold unwind;rw[ed,em];dsimp only;rw[show(ext fr K0).fn=fr.fn from rfl,hfn];dsimp only;rw[hr];cases x<;>trivial
omit hA in
structure Bd(P:Program)(Z:Zone)(Sh:Nat->Prop)(X:Tmp->Prop)(A:Frame->World->Prop) where
 fr:Frame
 l:List Frame
 w:World
 hI:Inv Z Sh X fr l w
 no:¬Goe P Z Sh X A fr l w
omit hA in
def Bd.at{P:Program}(b:Bd P Z Sh X A)(τ:Nat->Question->Nat)(p:Nat):Machine:=lone (ext b.fr (kk b.l K0)) (low b.l K0 [c0]) (tp b.w τ p)
omit hA in
structure Nxt(P:Program)(Z:Zone)(Sh:Nat->Prop)(X:Tmp->Prop)(A:Frame->World->Prop) where
 τ:Nat->Question->Nat
 p:Nat
 k:Nat
 nx:Option (Bd P Z Sh X A)
omit hA in
def b5R(P:Program)(b:Bd P Z Sh X A)(n:Nxt P Z Sh X A):Prop:=∀τ p,Agree (tp b.w n.τ n.p) n.k τ p->
 match n.nx with
 | some b'=>step P (b.at τ p)=.next (b'.at τ (p+n.k))
 | none=>Dead P A (b.at τ p)
omit hA in
theorem Bd.notArr{b:Bd P Z Sh X A}(τ:Nat->Question->Nat)(p:Nat):¬a5s A (b.at τ p):=by
 rintro⟨F,w',e,ha⟩;obtain⟨rfl,e1,rfl⟩:=a05 e;obtain⟨fr,l,w,hI,no⟩:=b
 cases l with
 | nil=>exact no (.stop fr w hI τ p ha)
 | cons x l=>
  have:=congrArg List.length e1;cases l<;>simp[low] at this
omit hA in
theorem Inv.tp{fr:Frame}{l:List Frame}{w:World}(h:Inv Z Sh X fr l w)(τ:Nat->Question->Nat)(p:Nat):Inv Z Sh X fr l (Zn.tp w τ p):=⟨h.fr,h.low,h.W.tp τ p⟩
theorem b22(hP:∀Z',Le Z Z'->PQK Z' P)(b:Bd P Z Sh X A):∃n:Nxt P Z Sh X A,b5R P b n:=by
 obtain⟨fr,l,w,hI,no⟩:=b;by_cases hs:Stop fr l
 ·obtain rfl:l=[]:=hs.1;exact⟨⟨w.tape,w.drawn,0,none⟩,fun τ p _=>b7M hA (hI.tp τ p) hs (Bd.notArr (b:=⟨fr,[],w,hI,no⟩) τ p <| ⟨_,_,rfl,·⟩)⟩
 have h1:∃τ p,∀fr' l' w' es,Nx P fr l (Zn.tp w τ p) fr' l' w' es->w.heap.size<=w'.heap.size->(∀e∈es,EvOK (Zf Z Sh w'.heap.size) w'.heap.size e)->¬Goe P Z Sh X A fr' l' w':=by
  refine Classical.byContradiction fun hc=>no (.of_next hI fun τ p=>Classical.byContradiction fun hn=>hc ⟨τ,p,fun fr' l' w' es hx hsz hev hg=>hn ⟨fr',l',w',es,hx,hsz,hev,hg⟩⟩)
 obtain⟨τ,p,h1⟩:=h1;have h0:∀τ' p',¬a5s A (lone (ext fr (kk l K0)) (low l K0 [c0]) (Zn.tp w τ' p')):=fun τ' p'=>Bd.notArr (b:=⟨fr,l,w,hI,no⟩) τ' p'
 cases c2o (P:=P) hP (hI.tp τ p) hs with
 | go fr' l' w' es k a h hI' hsz he=>
  have hg:¬Goe P Z Sh X A fr' l' w':=by
   refine h1 fr' l' w' es (fun κ cs=>?_) hsz he;have:=h κ cs τ p fun _ _ _=>rfl;rw[tp_tp] at this;rw[this];have e:Zn.tp w' τ (p+k)=w':=by
    have e1:w'.tape = τ:=a.tape;have e2:w'.drawn=p+k:=a.drawn;rw[<-e1,<-e2];rfl
   rw[e]
  exact⟨⟨τ,p,k,some ⟨fr',l',w',hI',hg⟩⟩,fun τ' p' hA'=>step_lone_go (by
   have:=h K0 [c0] τ' p' hA';show(stepG P true (Gr fr l K0 [c0]) (Zn.tp w τ' p')).bare=_;rw[tp_tp] at this;rw[this]
   rfl)⟩
 | bad fr' c w' es k a h hm hd hW hsz=>
  exact⟨⟨τ,p,k,none⟩,fun τ' p' hA'=>a0D (h0 τ' p') (by
   have:=h K0 [c0] τ' p' hA';rw[tp_tp] at this
   exact this) (b4J hA l fr' (Zn.tp w' τ' (p'+k)) c hm hd (hI.low.mono (le_zf hsz)) (hW.tp _ _))⟩
 | stop k h=>
  exact⟨⟨τ,p,k,none⟩,fun τ' p' hA'=>J7 (h0 τ' p') rfl (by
   have:=h [c0] τ' p' hA';rw[tp_tp] at this;exact this)⟩
section path
variable(f:Bd P Z Sh X A->Nxt P Z Sh X A)(b0:Bd P Z Sh X A)
def path:Nat->Option (Bd P Z Sh X A)×Nat
 | 0=>(some b0,0)
 | i+1=>match (path i).1 with
  | none=>(none,(path i).2)
  | some b=>((f b).nx,(path i).2+(f b).k)
omit hA in
theorem b0p(i j:Nat)(h:i<=j):(path f b0 i).2<=(path f b0 j).2:=by
 induction j with
 | zero=>obtain rfl:i=0:=by omega
         exact Nat.le_refl _
 | succ j ih=>
  rcases Nat.lt_or_ge i (j+1) with h1|h1
  ·refine Nat.le_trans (ih (by omega)) ?_
   have e:path f b0 (j+1)=match (path f b0 j).1 with
    | none=>(none,(path f b0 j).2)
    | some b=>((f b).nx,(path f b0 j).2+(f b).k):=rfl
   rw[e]
   cases(path f b0 j).1 with
   | none=>exact Nat.le_refl _
   | some b=>exact Nat.le_add_right _ _
  ·obtain rfl:i=j+1:=by omega
   exact Nat.le_refl _
open Classical in
noncomputable def star(j:Nat)(q:Question):Nat:=
 if h:∃i b,(path f b0 i).1=some b/\(path f b0 i).2<=j/\j<(path f b0 i).2+(f b).k then
  (f h.choose_spec.choose).τ ((f h.choose_spec.choose).p+(j - (path f b0 h.choose).2)) q
 else 0
omit hA in
theorem b4K{i:Nat}{b:Bd P Z Sh X A}(hb:(path f b0 i).1=some b):Agree (Zn.tp b.w (f b).τ (f b).p) (f b).k (star f b0) (path f b0 i).2:=by
 intro j hj q;have hex:∃i' b',(path f b0 i').1=some b'/\(path f b0 i').2<=(path f b0 i).2+j/\(path f b0 i).2+j<(path f b0 i').2+(f b').k:=⟨i,b,hb,by omega,by omega⟩;unfold star;rw[dif_pos hex];obtain⟨hs1,hs2,hs3⟩:=hex.choose_spec.choose_spec;generalize hex.choose_spec.choose=b' at hs1 hs2 hs3⊢;generalize hex.choose=i' at hs1 hs2 hs3⊢;have hnext:∀(i:Nat)b,(path f b0 i).1=some b->(path f b0 (i+1)).2=(path f b0 i).2+(f b).k:=fun i b h=>by
  conv=>lhs;unfold path
  rw[h]
 have hi:i'=i:=by
  rcases Nat.lt_trichotomy i' i with h|h|h
  ·have:=b0p f b0 (i'+1) i (by omega);rw[hnext _ _ hs1] at this;omega
  ·exact h
  ·have:=b0p f b0 (i+1) i' (by omega);rw[hnext _ _ hb] at this;omega
 subst hi;rw[hb] at hs1;obtain rfl:=Option.some.inj hs1;show(f b).τ _ q=(f b).τ _ q;congr 1
 show(f b).p+_=(f b).p+j;omega
omit hA in
theorem b7N(hf:∀b,b5R P b (f b))(i:Nat):(∃b,(path f b0 i).1=some b/\runN P i (b0.at (star f b0) 0)=.next (b.at (star f b0) (path f b0 i).2))\/(∃j b,j<i/\runN P j (b0.at (star f b0) 0)=.next (b.at (star f b0) (path f b0 j).2)/\Dead P A (b.at (star f b0) (path f b0 j).2)/\(path f b0 j).1=some b):=by
 induction i with
 | zero=>exact .inl ⟨b0,rfl,rfl⟩
 | succ i ih=>
  rcases ih with⟨b,hb,hr⟩|⟨j,b,hj,h⟩
  ·have hn:=hf b (star f b0) (path f b0 i).2 (b4K f b0 hb)
   cases hx:(f b).nx with
   | none=>
    rw[hx] at hn
    exact .inr ⟨i,b,by omega,hr,hn,hb⟩
   | some b'=>
    rw[hx] at hn;refine .inl ⟨b',?_,?_⟩
    ·conv=>lhs;unfold path
     rw[hb];exact hx
    ·rw[runN_add,hr];dsimp only;have:(path f b0 (i+1)).2=(path f b0 i).2+(f b).k:=by
      conv=>lhs;unfold path
      rw[hb]
     rw[this];dsimp only[runN];rw[hn]
  ·exact .inr ⟨j,b,by omega,h⟩
end path
theorem lone_goe(hP:∀Z',Le Z Z'->PQK Z' P){fr:Frame}{w:World}(hI:Inv Z Sh X fr [] w)(h:∀τ p,∃n m',runN P n (lone (ext fr K0) [c0] (Zn.tp w τ p))=.next m'/\a5s A m'):Goe P Z Sh X A fr [] w:=by
 refine Classical.byContradiction fun no=>?_
 let b0:Bd P Z Sh X A:=⟨fr,[],w,hI,no⟩
 have hf0:∀b:Bd P Z Sh X A,b5R P b (Classical.choose (b22 hA hP b)):=fun b=>Classical.choose_spec (b22 hA hP b);obtain⟨f,hf⟩:∃f:Bd P Z Sh X A->Nxt P Z Sh X A,∀b,b5R P b (f b):=⟨_,hf0⟩;obtain⟨n,m',hr,ha⟩:=h (star f b0) 0;rcases b7N f b0 hf n with⟨b,hb,hr'⟩|⟨j,b,hj,hr',hd,-⟩
 ·have e:b.at (star f b0) (path f b0 n).2=m':=by
   have:runN P n (b0.at (star f b0) 0)=.next m':=hr;rw[hr'] at this;injection this
  exact Bd.notArr _ _ (e▸ha)
 ·obtain⟨k,rfl⟩:∃k,n=j+k:=⟨n - j,by omega⟩;have:runN P (j+k) (b0.at (star f b0) 0)=.next m':=hr;rw[runN_add,hr'] at this;exact hd k m' this ha
end
end
end Go.Zn
