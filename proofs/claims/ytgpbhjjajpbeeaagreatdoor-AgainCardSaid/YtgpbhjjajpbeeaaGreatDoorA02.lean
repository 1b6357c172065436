/- A part of what the last file proves. -/
import Derived.Test.YtgpbhjjajpbeeaaGreatDoorA01
import GoSem.Core.World
import Derived.KernelRfl
import GoSem.Core.Machine
import Derived.IntWalk
set_option linter.all false
def aj{p:Prop}(h:p:=by omega):p:=h
def aW{p:Prop}(h:p:=by kernel_rfl):p:=h
def aZ{p:Prop}(h:p:=by simp):p:=h
def dA{p:Prop}(h:p:=by decide):p:=h
def iw{p:Prop}(h:p:=by simp;omega):p:=h
def kN{p:Prop}(h:p:=by simp[Op.operands]):p:=h
def fU{p:Prop}(h:p:=by grind):p:=h
def iL{p:Prop}(h:p:=by simp_all):p:=h
def qV{p:Prop}(h:p:=by simp[Value.oneCell']):p:=h
def yT{p:Prop}(h:p:=by rw[IntKind.wrap_u64];omega):p:=h
def Ea{p:Prop}(h:p:=by rw[dH];omega):p:=h
def qc{p:Prop}(h:p:=by trivial):p:=h
def Pn{p:Prop}(h:p:=by rw[dH,fG];omega):p:=h
def IU{p:Prop}(h:p:=by simp[World.setCell]):p:=h
def YV{p:Prop}(h:p:=by rw[fG,dH];omega):p:=h
def Vz{p:Prop}(h:p:=by constructor<;>assumption):p:=h
def IW{p:Prop}(h:p:=by rw[bne,bG.2 (by omega)];rfl):p:=h
def IV{p:Prop}(h:p:=by rw[bne,fO.2 (by omega)];rfl):p:=h
def YW{p:Prop}(h:p:=by unfold Addr.add;grind):p:=h
def lJ{p:Prop}(h:p:=by unfold maxLen;omega):p:=h
def zV{p:Prop}(h:p:=by simp only[phi];omega):p:=h
def Ec{p:Prop}(h:p:=by simp[H7,P8]):p:=h
def Pq{p:Prop}(h:p:=by simp[H7,P8];omega):p:=h
def Po{p:Prop}(h:p:=by simp[H7,P8]<;>omega):p:=h
def Eb{p:Prop}(h:p:=by simp[H7]):p:=h
def CO{p:Prop}(h:p:=by simp[W_]):p:=h
def bz{p:Prop}(h:p:=by rw[add_block];assumption):p:=h
def CJ{p:Prop}(h:p:=by simp[sM]):p:=h
def IQ{p:Prop}(h:p:=by simp[D6]):p:=h
def kT{p:Prop}(h:p:=by assumption):p:=h
def YU{p:Prop}(h:p:=by simp[Sem.runT]):p:=h
def YT{p:Prop}(h:p:=by unfold wrap64;omega):p:=h
instance:Coe Go.World Nat:=⟨λw=>w.heap.size⟩
instance:Coe Nat Go.Addr:=⟨λb=>⟨b,0,none⟩⟩
abbrev aB:=Go.World
abbrev aX:=Go.Value
abbrev bT:=Go.TypeId
abbrev dU:=Array Go.Value
abbrev dV:=List UInt8
abbrev fJ:=List (List UInt8)
abbrev tyP:=Nat->Prop
abbrev fC:=List Int
abbrev iY:=Go.Goroutine
abbrev iZ:=List Go.Frame
abbrev jl:=List Go.Value
def iE{p:Prop}(h:p:=by go_num):p:=h
namespace Go.Proofs.YtgpbhjjajpbeeaaGreatDoor
variable{a b c n:Nat}{l x:dV}
namespace Pl
def zl(c:Nat):Nat:=(c/2) ^^^ (if c%2=1 then 3988292384 else 0)
def w_:Nat->Nat->Nat
 | 0,c=>c
 | n+1,c=>w_ n (zl c)
def GY(c:Nat)(b:UInt8):Nat:=w_ 8 (c ^^^ b.toNat)
def Z9(c:Nat)(l:dV):Nat:=l.foldl GY c
def crc(l:dV):Nat:=Z9 4294967295 l ^^^ 4294967295
def WB(c:a<4294967296)(d:b<4294967296):a ^^^ b<4294967296:=
 Nat.xor_lt_two_pow (n:=32) c d
def c1t(h:c<4294967296):zl c<4294967296:=by unfold zl;split<;>exact WB aj<|aj
def C7(n:Nat):∀{c:Nat},c<4294967296->w_ n c<4294967296:=by
 induction n with
 | zero=>intro c h;exact h
 | succ n a=>intro c h;exact a<|c1t h
def TC(n:Nat):∀c:Nat,w_ (n+1) c=zl (w_ n c):=by
 induction n with
 | zero=>intro c;rfl
 | succ n a=>intro c;exact a<|zl c
def b74(h:c<4294967296)(b:UInt8):GY c b<4294967296:=
 C7 8 (WB h<|by have:=b.toNat_lt;omega)
def Xi(l:dV):∀{c:Nat},c<4294967296->Z9 c l<4294967296:=by
 induction l with
 | nil=>intro c h;exact h
 | cons b l a=>intro c h;exact a<|b74 h b
def Ep(l:dV):crc l<4294967296:=WB (Xi l<|aj)<|aj
def Tu(c:Nat)(l:dV)(b:UInt8):Z9 c (l++[b])=GY (Z9 c l) b:=by simp[Z9]
def take_snoc{α:Type}(l:List α)(k:Nat)(h:k<l.length):l.take (k+1)=l.take k++[l[k]]:=by simp
def be(n:Nat):Nat->List UInt8
 | 0=>[]
 | k+1=>UInt8.ofNat (n/256^k)::be n k
def H7(n k:Nat):(be n k).length=k:=by
 induction k with
 | zero=>rfl
 | succ k a=>simp[be,a]
def nl(n j:Nat):((n:Int)/2^(8*(j:Int)).toNat)%256=((UInt8.ofNat (n/256^j)).toNat:Int):=by
 have a:(8*(j:Int)).toNat=8*j:=aj
 have b:2^(8*j)=256^j:=by rw[Nat.pow_mul]
 rw[a,show(2:Int)^(8*j)=(2^(8*j):Nat) by rfl,b];simp
def body(a:Nat)(k v:dV)(d:Bool):List UInt8:=be a 8++be (if d then 1 else 0) 1++be k.length 1++be v.length 2++k++v
def summed(l:dV):List UInt8:=be (crc l) 4++l
def ik(k v:dV)(d:Bool):Nat:=if k.length<1\/16<k.length then 1 else if 64<v.length\/(d=true/\v≠[]) then 2 else 0
def sC(n m k:Nat)(d:k<=m):be n k=be (n%256^m) k:=by
 induction k with
 | zero=>rfl
 | succ k c=>
  rw[be,be,<-c aj];congr 1
  have e:256^m=256^k*256^(m - k):=by rw[<-Nat.pow_add];grind
  have a:n%256^m/256^k=n/256^k%256^(m - k):=by rw[e,Nat.mod_mul_right_div_self]
  have b:256^(m - k)=256*256^(m - k - 1):=by rw[<-Nat.pow_succ'];congr 1;omega
  rw[a,b];apply UInt8.toNat_inj.1;simp
def num(l:dV):Nat:=l.foldl (λn b=>n*256+b.toNat) 0
def wh(l:dV)(b:UInt8):num (l++[b])=num l*256+b.toNat:=by simp[num]
def c4P(l:dV):∀n,l.foldl (λn b=>n*256+b.toNat) n=n*256^l.length+num l:=by
 induction l with
 | nil=>simp[num]
 | cons b l a=>intro n;simp only[kW,num];rw[a,a<|0*256+b.toNat];simp only[dK,Nat.pow_succ];rw[Nat.add_mul,nS,jV,Nat.mul_assoc,jy 256]
def vR(b:UInt8)(l:dV):num (b::l)=b.toNat*256^l.length+num l:=by have:=c4P l<|0*256+b.toNat;simpa [num] using this
def PX(l:dV):num l<256^l.length:=by
 induction l with
 | nil=>trivial
 | cons b l=>rw[vR,dK];have:=b.toNat_lt;have a:b.toNat*256^l.length<=255*256^l.length:=fH _ aj;omega
def Zq(n k:Nat)(h:n<256^k):num (be n k)=n:=by
 induction k generalizing n with
 | zero=>simp at h;simp[be,num,h]
 | succ k d=>
  rw[be,vR,H7];have a:0<256^k:=Nat.pow_pos aj;have e:n/256^k<256:=by rw[Nat.div_lt_iff_lt_mul a,jy];exact h
  have c:(UInt8.ofNat<|n/256^k).toNat=n/256^k:=iL
  rw[c,sC n k k<|ak _,d _<|MZ _ a];exact Nat.div_add_mod' n<|256^k
def c4Q(n j:Nat):((n:Int)/2^(8*j))%256=((UInt8.ofNat (n/256^j)).toNat:Int):=by have:=nl n j;trivial
structure Rec where
 seq:Nat
 key:List UInt8
 val:List UInt8
 del:Bool
 size:Nat
def F5(l:dV):Nat:=num ((l.drop 13).take 1)
def H9(l:dV):Nat:=num ((l.drop 14).take 2)
def L6(l:dV):Nat:=num ((l.drop 12).take 1)
def good(l:dV):Bool:=
 decide (16+F5 l+H9 l<=l.length)&&(decide (L6 l<=1)&&(decide (1<=F5 l)&&(decide (F5 l<=16)&&(decide (H9 l<=64)&&(!(decide (L6 l=1)&&decide (0<H9 l)) &&
  decide (crc ((l.take (16+F5 l+H9 l)).drop 4)=num (l.take 4)))))))
def dec(l:dV):Option Rec:=
 if good l=true then some ⟨num ((l.drop 4).take 8),(l.drop 16).take (F5 l),(l.drop (16+F5 l)).take (H9 l),decide (L6 l=1),16+F5 l+H9 l⟩ else none
def nT(s:List UInt8×Bool)(n:Nat):Nat×(List UInt8×Bool):=
 if s.2=true\/s.1.length<n then(0,(s.1,true)) else(num (s.1.take n),(s.1.drop n,false))
def xG(s:List UInt8×Bool)(n:Nat):List UInt8×(List UInt8×Bool):=
 if s.2=true\/s.1.length<n then([],(s.1,true)) else(s.1.take n,(s.1.drop n,false))
def zA(x:dV)(n:Nat):nT (x,true) n=(0,(x,true)):=by simp[nT]
def sY(x:dV)(n:Nat):xG (x,true) n=([],(x,true)):=by simp[xG]
def Ho(h:x.length<n):nT (x,false) n=(0,(x,true)):=by simp[nT,h]
def xz(h:x.length<n):xG (x,false) n=([],(x,true)):=by simp[xG,h]
def GR(h:n<=x.length):nT (x,false) n=(num (x.take n),(x.drop n,false)):=by
 have:=aj
 simp[nT,this]
def ie(h:n<=x.length):xG (x,false) n=(x.take n,(x.drop n,false)):=by
 have:=aj
 simp[xG,this]
def O3(l:dV)(k:Nat):num (l.take k)<256^k:=
 aF (PX _) (kF aj<|Ea)
def c8M{r o q k v:Nat}{key val:dV}{y s2 w u p s i:List UInt8×Bool}
 (e1:(r,y)=nT (l,false) 4)(h:(o,s2)=nT y 8)(d:(q,w)=nT s2 1)(b:(k,u)=nT w 1)(a:(v,p)=nT u 2)(g:(key,s)=xG p k)(e:(val,i)=xG s v):
 k<256/\v<65536/\((i.2=true/\l.length<16+F5 l+H9 l)\/(i.2=false/\16+F5 l+H9 l<=l.length/\r=num (l.take 4)/\o=num ((l.drop 4).take 8)/\q=L6 l/\k=F5 l/\v=H9 l/\
  key=(l.drop 16).take k/\val=(l.drop (16+k)).take v)):=by
 have j:∀{x:dV},p=(x,true)->k<256->v<65536->l.length<16->k<256/\v<65536/\((i.2=true/\l.length<16+F5 l+H9 l)\/(i.2=false/\16+F5 l+H9 l<=l.length/\r=num (l.take 4)/\o=num ((l.drop 4).take 8)/\q=L6 l/\k=F5 l/\v=H9 l/\
  key=(l.drop 16).take k/\val=(l.drop (16+k)).take v)):=by
  intro x K m n O;subst K;rw[sY] at g;injection g with _ g;subst g;rw[sY] at e;injection e with _ e;subst e;exact⟨m,n,.inl ⟨rfl,aj⟩⟩
 by_cases L:l.length<4
 rw[Ho L] at e1;injection e1 with _ e1;subst e1;rw[zA] at h;injection h with _ h;subst h;rw[zA] at d;injection d with _ d;subst d;rw[zA] at b;injection b with f b;subst b;subst f;rw[zA] at a;injection a with c a;subst c;exact j a aj aj aj
 rw[GR aj] at e1;injection e1 with N e1;subst e1;by_cases C:l.length<12
 rw[Ho iw] at h;injection h with _ h;subst h;rw[zA] at d;injection d with _ d;subst d;rw[zA] at b;injection b with f b;subst b;subst f;rw[zA] at a;injection a with c a;subst c;exact j a aj aj aj
 rw[GR iw] at h;injection h with J h;subst h;by_cases G:l.length<13
 rw[Ho iw] at d;injection d with _ d;subst d;rw[zA] at b;injection b with f b;subst b;subst f;rw[zA] at a;injection a with c a;subst c;exact j a aj aj aj
 rw[GR iw] at d;injection d with B d;subst d;by_cases P:l.length<14
 rw[Ho iw] at b;injection b with f b;subst b;subst f;rw[zA] at a;injection a with c a;subst c;exact j a aj aj aj
 rw[GR iw] at b;injection b with z b;subst b;have m:k<256:=by rw[z];exact O3 _ 1
 by_cases F:l.length<16
 rw[Ho iw] at a;injection a with c a;subst c;exact j a m aj aj
 rw[GR iw] at a;injection a with t a;subst a;simp[oK] at *;have I:k=F5 l:=z;have M:v=H9 l:=t;refine⟨m,by rw[t];exact O3 _ 2,?_⟩;by_cases A:l.length<16+k
 rw[xz iw] at g;injection g with _ g;subst g;rw[sY] at e;injection e with _ e;subst e;exact .inl ⟨rfl,aj⟩
 rw[ie iw] at g;injection g with H g;subst g;by_cases D:l.length<16+k+v
 rw[xz iw] at e;injection e with _ e;subst e;exact .inl ⟨rfl,aj⟩
 rw[ie iw] at e;injection e with E e;subst e;exact .inr ⟨rfl,aj,N,J,B,I,M,H,iL⟩
def LQ(b:UInt8):b.toNat<256:=b.toNat_lt
end Pl
end Go.Proofs.YtgpbhjjajpbeeaaGreatDoor
