import Derived.Laws.Strings
import Derived.Test.YtlapbjdhekcipaaGreatWC
set_option linter.unusedVariables false
set_option linter.unusedSimpArgs false
namespace Go.Ae
open Go
theorem VK (x:Int):IntKind.i64.wrap x=if x % 18446744073709551616 ≥ 9223372036854775808 then x % 18446744073709551616 - 18446744073709551616 else x % 18446744073709551616:=by
 have:IntKind.i64.wrap x=if (true && decide (x % (2 ^ 64:Int) ≥ (2 ^ 63:Int)))=true then x % (2 ^ 64:Int) - (2 ^ 64:Int) else x % (2 ^ 64:Int):=rfl
 rw [this];simp
theorem ax {x:Int} (h:-9223372036854775808≤x) (J:x < 9223372036854775808):IntKind.i64.wrap x=x:=by
 rw [VK]
 split <;> omega
theorem BO (x:Int):IntKind.u64.wrap x=x % 18446744073709551616:=by
 unfold IntKind.wrap;simp [IntKind.bits,IntKind.signed]
theorem bN {x:Int} (h:0≤x) (J:x < 18446744073709551616):IntKind.u64.wrap x=x:=by rw [BO]; omega
theorem wJ (x:Int):IntKind.u32.wrap x=x % 4294967296:=by
 unfold IntKind.wrap;simp [IntKind.bits,IntKind.signed]
theorem dh {x:Int} (h:0≤x) (J:x < 4294967296):IntKind.u32.wrap x=x:=by rw [wJ]; omega
theorem lz (x:Int):IntKind.u8.wrap x=x % 256:=by
 unfold IntKind.wrap;simp [IntKind.bits,IntKind.signed]
theorem dF {x:Int} (h:0≤x) (J:x < 256):IntKind.u8.wrap x=x:=by rw [lz]; omega
abbrev B:Nat:=4294967296
theorem eD (n:Nat):0 < B ^ n:=Nat.pow_pos (by decide)
def an (N i:Nat):Nat:=N / B ^ i % B
theorem cI (N i:Nat):an N i < B:=Nat.mod_lt _ (by decide)
def cG (Y j d:Nat):Nat:=Y % B ^ j+B ^ j*(d+B*(Y / B ^ (j+1)))
theorem Fz (Y j:Nat):Y=Y % B ^ j+B ^ j*(an Y j+B*(Y / B ^ (j+1))):=by
 have h1:=Nat.mod_add_div Y (B ^ j);have J:=Nat.mod_add_div (Y / B ^ j) B;rw [Nat.div_div_eq_div_mul,← Nat.pow_succ] at J;unfold an;rw [J,h1]
theorem pS (Y j d:Nat):cG Y j d+an Y j*B ^ j=Y+d*B ^ j:=by
 have h:=Fz Y j;unfold cG;rw [Nat.mul_add] at h ⊢;have e1:B ^ j*an Y j=an Y j*B ^ j:=Nat.mul_comm _ _;have e2:B ^ j*d=d*B ^ j:=Nat.mul_comm _ _;omega
theorem oK {a k Q:Nat} (h:a < k):(a+k*Q) / k=Q:=by
 have hk:0 < k:=by omega
 rw [Nat.add_mul_div_left _ _ hk,Nat.div_eq_of_lt h,Nat.zero_add]
theorem F1 {Y j d:Nat} (hd:d < B) (r:Nat):an (cG Y j d) r=if r=j then d else an Y r:=by
 have ha:Y % B ^ j < B ^ j:=Nat.mod_lt _ (eD j);rcases Nat.lt_trichotomy r j with h | h | h
 ·rw [if_neg (by omega)]
  have key:∀ K,an (Y % B ^ j+B ^ j*K) r=an (Y % B ^ j) r:=by
   intro K;unfold an;have e:B ^ j*K=B ^ r*(B*(B ^ (j - r - 1)*K)):=by
    rw [← Nat.mul_assoc,← Nat.mul_assoc,← Nat.pow_succ,← Nat.pow_add,show r+1+(j - r - 1)=j by omega]
   rw [e,Nat.add_mul_div_left _ _ (eD r),Nat.add_mul_mod_self_left]
  have h1:=key (d+B*(Y / B ^ (j+1)));have J:=key (an Y j+B*(Y / B ^ (j+1)));rw [← Fz Y j] at J;unfold cG;rw [h1,J]
 ·subst h;rw [if_pos rfl];unfold cG an;rw [oK ha,Nat.add_mul_mod_self_left,Nat.mod_eq_of_lt hd]
 ·rw [if_neg (by omega)]
  have key:∀ d',d' < B→an (Y % B ^ j+B ^ j*(d'+B*(Y / B ^ (j+1)))) r=Y / B ^ (j+1) / B ^ (r - j - 1) % B:=by
   intro d' cU;unfold an;have e:B ^ r=B ^ j*(B*B ^ (r - j - 1)):=by
    rw [← Nat.mul_assoc,← Nat.pow_succ,← Nat.pow_add,show j+1+(r - j - 1)=r by omega]
   rw [e,← Nat.div_div_eq_div_mul,oK ha,← Nat.div_div_eq_div_mul,oK cU]
  have h1:=key d hd;have J:=key (an Y j) (cI Y j);rw [← Fz Y j] at J;unfold cG;rw [h1,J]
def bu (N:Nat):Nat→List Value:=fun r=>[.int .u32 (an N r)]
theorem fL {Y j d:Nat} (hd:d < B):(fun r=>if r=j then [Value.int .u32 d] else bu Y r)=bu (cG Y j d):=by
 funext r
 unfold bu;rw [F1 hd]
 split <;> rfl
theorem FA (r:Nat):an 0 r=0:=by simp [an]
theorem tQ:(fun _=>[Value.int .u32 0])=bu 0:=by
 funext r
 simp [bu,FA]
theorem ug {N n:Nat} (h:N < B ^ n) {r:Nat} (hr:n≤r):an N r=0:=by
 unfold an;have:B ^ n≤B ^ r:=Nat.pow_le_pow_right (by decide) hr
 rw [Nat.div_eq_of_lt (by omega)]; rfl
theorem mod_succ (N i:Nat):N % B ^ (i+1)=N % B ^ i+an N i*B ^ i:=by
 unfold an;rw [Nat.pow_succ,Nat.mod_mul];rw [Nat.mul_comm (B ^ i)]
theorem pZ (N i:Nat):N / B ^ i=an N i+B*(N / B ^ (i+1)):=by
 have J:=Nat.mod_add_div (N / B ^ i) B;rw [Nat.div_div_eq_div_mul,← Nat.pow_succ] at J;exact J.symm
def nl (N:Nat):Nat:=if h:N=0 then 0 else nl (N / B)+1
decreasing_by exact Nat.div_lt_self (by omega) (by decide)
theorem rY:nl 0=0:=by rw [nl]; rfl
theorem GA {N:Nat} (h:N≠0):nl N=nl (N / B)+1:=by rw [nl]; simp [h]
theorem b8 (N:Nat):N < B ^ nl N:=by
 induction N using Nat.strongRecOn with
 | _ N ih =>
  by_cases h:N=0
  ·subst h; rw [rY]; decide
  ·have:=ih (N / B) (Nat.div_lt_self (by omega) (by decide))
   rw [GA h,Nat.pow_succ];exact (Nat.div_lt_iff_lt_mul (by decide)).1 this
theorem jQ {N n:Nat} (h:N < B ^ n):nl N≤n:=by
 induction n generalizing N with
 | zero =>
  have:N=0:=by simpa using h
  subst this; rw [rY]; exact Nat.le_refl _
 | succ n ih =>
  by_cases h0:N=0
  ·subst h0; rw [rY]; omega
  ·have:N / B < B ^ n:=(Nat.div_lt_iff_lt_mul (by decide)).2 (by rw [← Nat.pow_succ]; exact h)
   rw [GA h0];have:=ih this;omega
theorem y6 {N:Nat} (h:N≠0):0 < nl N:=by rw [GA h]; omega
theorem Ls {N:Nat} (h:nl N=0):N=0:=by
 by_cases h0:N=0
 ·exact h0
 ·have:=y6 h0; omega
theorem Sc {N:Nat} (h:N≠0):B ^ (nl N - 1)≤N:=by
 rcases Nat.lt_or_ge N (B ^ (nl N - 1)) with h1 | h1
 ·have:=jQ h1;have:=y6 h;omega
 ·exact h1
theorem Po {N n:Nat} (h:N < B ^ n) (J:n=0∨an N (n - 1)≠0):nl N=n:=by
 rcases J with rfl | J
 ·have:=jQ h; omega
 ·have h3:=jQ h;rcases Nat.lt_or_ge (nl N) n with h4 | h4
  ·exact absurd (ug (b8 N) (show nl N≤n - 1 by omega)) J
  ·omega
theorem lB {M N:Nat} (h:M≤N):nl M≤nl N:=jQ (Nat.lt_of_le_of_lt h (b8 N))
theorem KU {M N:Nat} (h:nl M < nl N):M < N:=by
 rcases Nat.lt_or_ge M N with h1 | h1
 ·exact h1
 ·have:=lB h1; omega
theorem VL {N:Nat} (h:N≠0):an N (nl N - 1)≠0:=by
 intro h0;have h1:=b8 N;have J:=y6 h;have e:nl N=nl N - 1+1:=by omega
 have h3:=mod_succ N (nl N - 1);rw [← e,h0,Nat.mod_eq_of_lt h1] at h3;have h4:=Nat.mod_lt N (eD (nl N - 1));have:=jQ (show N < B ^ (nl N - 1) by omega)
 omega
open Go
abbrev C:Nat:=256
theorem ia (n:Nat):0 < C ^ n:=Nat.pow_pos (by decide)
def dt (l:List UInt8):Nat:=l.foldl (fun a b=>a*C+b.toNat) 0
theorem Mj (l:List UInt8):∀ a,l.foldl (fun a b=>a*C+b.toNat) a=a*C ^ l.length+dt l:=by
 induction l with
 | nil=>intro a; simp [dt]
 | cons b l ih =>
  intro a;simp only [List.foldl_cons,dt];rw [ih,ih (0*C+b.toNat)];rw [List.length_cons,Nat.pow_succ,Nat.add_mul,Nat.zero_mul,Nat.zero_add,Nat.mul_assoc,Nat.mul_comm C,Nat.add_assoc]
theorem rR (b:UInt8) (l:List UInt8):dt (b::l)=b.toNat*C ^ l.length+dt l:=by
 have:=Mj l (0*C+b.toNat);rw [Nat.zero_mul,Nat.zero_add] at this
 simpa [dt] using this
theorem Bd (l m:List UInt8):dt (l++m)=dt l*C ^ m.length+dt m:=by
 unfold dt;rw [List.foldl_append,Mj]
 rfl
theorem HJ (b:UInt8):b.toNat < C:=b.toNat_lt
theorem rZ (l:List UInt8):dt l < C ^ l.length:=by
 induction l with
 | nil=>decide
 | cons b l ih =>
  rw [rR,List.length_cons,Nat.pow_succ];have:=HJ b;have J:(b.toNat+1)*C ^ l.length≤C*C ^ l.length:=Nat.mul_le_mul_right _ this;rw [Nat.add_mul] at J;rw [Nat.mul_comm (C ^ l.length)];omega
theorem VM {l:List UInt8} {i:Nat} (h:i < l.length):l[i].toNat=dt l / C ^ (l.length - 1 - i) % C:=by
 induction l generalizing i with
 | nil=>simp at h
 | cons b l ih =>
  cases i with
  | zero =>
   simp only [List.getElem_cons_zero,List.length_cons,Nat.add_sub_cancel,Nat.sub_zero];rw [rR,Nat.mul_comm,Nat.mul_add_div (ia _),Nat.div_eq_of_lt (rZ l),Nat.add_zero,Nat.mod_eq_of_lt (HJ b)]
  | succ i =>
   have hi:i < l.length:=by simpa using h
   simp only [List.getElem_cons_succ,List.length_cons,Nat.add_sub_cancel];rw [ih hi,rR];have e:C ^ l.length=C ^ (l.length - (i+1))*(C*C ^ i):=by
    rw [← Nat.mul_assoc,← Nat.pow_succ,← Nat.pow_add,show l.length - (i+1)+1+i=l.length by omega]
   rw [show l.length - 1 - i=l.length - (i+1) by omega,e]
   rw [show b.toNat*(C ^ (l.length - (i+1))*(C*C ^ i))=C ^ (l.length - (i+1))*(C*(C ^ i*b.toNat)) by
    rw [Nat.mul_comm,Nat.mul_assoc,Nat.mul_assoc]]
   rw [Nat.mul_add_div (ia _),Nat.mul_add_mod]
def ab (s:ByteArray):Nat:=dt s.data.toList
theorem size_eq (s:ByteArray):s.data.toList.length=s.size:=rfl
theorem gE (s:ByteArray):ab s < C ^ s.size:=rZ _
theorem ua {s:ByteArray} {i:Nat} (h:i < s.size):b9 s i=ab s / C ^ (s.size - 1 - i) % C:=by
 have h':i < s.data.toList.length:=h;have:=VM h';unfold b9 ab;rw [List.getD_eq_getElem?_getD,List.getElem?_eq_getElem h',Option.getD_some,this]
 rfl
theorem wB (s:ByteArray) (i:Nat):b9 s i < C:=HJ _
theorem G8 {s t:ByteArray} (h:s.data.toList=t.data.toList):s=t:=by
 cases s; cases t; congr; exact Array.ext' h
theorem VN {l m:List UInt8} (h:l.length=m.length) (J:dt l=dt m):l=m:=by
 induction l generalizing m with
 | nil=>cases m with
  | nil=>rfl
  | cons=>simp at h
 | cons a l ih=>cases m with
  | nil=>simp at h
  | cons b m =>
   simp only [List.length_cons,Nat.add_right_cancel_iff] at h;rw [rR,rR,h] at J;have h3:=rZ l;have h4:=rZ m;rw [h] at h3;have ha:a.toNat=b.toNat:=by
    have e1:(a.toNat*C ^ m.length+dt l) / C ^ m.length=a.toNat:=by
     rw [Nat.mul_comm,Nat.mul_add_div (ia _),Nat.div_eq_of_lt h3,Nat.add_zero]
    have e2:(b.toNat*C ^ m.length+dt m) / C ^ m.length=b.toNat:=by
     rw [Nat.mul_comm,Nat.mul_add_div (ia _),Nat.div_eq_of_lt h4,Nat.add_zero]
    rw [← e1,← e2,J]
   rw [ha] at J;rw [UInt8.toNat_inj.1 ha,ih h (by omega)]
theorem VO {s t:ByteArray} (h:s.size=t.size) (J:ab s=ab t):s=t:=G8 (VN h J)
def pI:Nat→Nat→List UInt8
 | 0,_=>[]
 | n+1,Y=>pI n (Y / C)++[UInt8.ofNat (Y % C)]
theorem wj:∀ (n Y:Nat),(pI n Y).length=n
 | 0,_=>rfl
 | n+1,Y=>by simp [pI,wj n]
theorem ofNat_mod (x:Nat):(UInt8.ofNat (x % C)).toNat=x % C:=by
 have:x % C < 256:=Nat.mod_lt _ (by decide)
 simp [UInt8.toNat_ofNat,Nat.mod_eq_of_lt this]
theorem MZ:∀ (n Y:Nat),dt (pI n Y)=Y % C ^ n
 | 0,Y=>by simp [pI,dt,Nat.mod_one]
 | n+1,Y=>by
  rw [pI,Bd,MZ n,rR];simp only [List.length_cons,List.length_nil,Nat.zero_add,Nat.pow_zero,Nat.mul_one,Nat.pow_one];rw [ofNat_mod,Nat.pow_succ,Nat.mul_comm (C ^ n),Nat.mod_mul];simp only [dt,List.foldl_nil,Nat.add_zero];rw [Nat.mul_comm]; omega
def be (n Y:Nat):ByteArray:=⟨⟨pI n Y⟩⟩
theorem wT (n Y:Nat):(be n Y).size=n:=wj n Y
theorem GB (n Y:Nat):ab (be n Y)=Y % C ^ n:=MZ n Y
def aT (N:Nat):Nat:=if h:N=0 then 0 else aT (N / C)+1
decreasing_by exact Nat.div_lt_self (by omega) (by decide)
theorem wK:aT 0=0:=by rw [aT]; rfl
theorem F2 {N:Nat} (h:N≠0):aT N=aT (N / C)+1:=by rw [aT]; simp [h]
theorem lG (N:Nat):N < C ^ aT N:=by
 induction N using Nat.strongRecOn with
 | _ N ih =>
  by_cases h:N=0
  ·subst h; rw [wK]; decide
  ·have:=ih (N / C) (Nat.div_lt_self (by omega) (by decide))
   rw [F2 h,Nat.pow_succ];exact (Nat.div_lt_iff_lt_mul (by decide)).1 this
theorem gX {N n:Nat} (h:N < C ^ n):aT N≤n:=by
 induction n generalizing N with
 | zero =>
  have:N=0:=by simpa using h
  subst this; rw [wK]; exact Nat.le_refl _
 | succ n ih =>
  by_cases h0:N=0
  ·subst h0; rw [wK]; omega
  ·have:N / C < C ^ n:=(Nat.div_lt_iff_lt_mul (by decide)).2 (by rw [← Nat.pow_succ]; exact h)
   rw [F2 h0];have:=ih this;omega
theorem GC {N:Nat} (h:N≠0):0 < aT N:=by rw [F2 h]; omega
theorem SD {N:Nat} (h:aT N=0):N=0:=by
 by_cases h0:N=0
 ·exact h0
 ·have:=GC h0; omega
theorem iZ {M N:Nat} (h:M≤N):aT M≤aT N:=gX (Nat.lt_of_le_of_lt h (lG N))
theorem Sd {M N:Nat} (h:aT M < aT N):M < N:=by
 rcases Nat.lt_or_ge M N with h1 | h1
 ·exact h1
 ·have:=iZ h1; omega
theorem OF {N n:Nat} (h:N < C ^ n) (J:n=0∨C ^ (n - 1)≤N):aT N=n:=by
 rcases J with rfl | J
 ·have:=gX h; omega
 ·have h3:=gX h;rcases Nat.lt_or_ge (aT N) n with h4 | h4
  ·have h5:C ^ aT N≤C ^ (n - 1):=Nat.pow_le_pow_right (by decide) (by omega)
   have:=lG N;omega
  ·omega
theorem RZ {N:Nat} (h:N≠0):C ^ (aT N - 1)≤N:=by
 rcases Nat.lt_or_ge N (C ^ (aT N - 1)) with h1 | h1
 ·have:=gX h1;have:=GC h;omega
 ·exact h1
def nb (N:Nat):ByteArray:=be (aT N) N
theorem gP (N:Nat):(nb N).size=aT N:=wT _ _
theorem iy (N:Nat):ab (nb N)=N:=by unfold nb; rw [GB,Nat.mod_eq_of_lt (lG N)]
theorem OG {M N:Nat} (h:nb M=nb N):M=N:=by rw [← iy M,h,iy]
theorem p8:nb 0=⟨#[]⟩:=by unfold nb; rw [wK]; rfl
theorem jn (s:ByteArray):aT (ab s)≤s.size:=gX (gE s)
theorem acD {s:ByteArray} (h:s.size=0∨C ^ (s.size - 1)≤ab s):s=nb (ab s):=by
 refine VO ?_ (iy _).symm;rw [gP,OF (gE s) h]
theorem y7 {s:ByteArray} (h:s.size=0∨b9 s 0≠0):s=nb (ab s):=by
 refine acD (h.imp_right fun h=>?_)
 by_cases h0:s.size=0
 ·exfalso;apply h;unfold b9;have:s.data.toList=[]:=List.eq_nil_of_length_eq_zero h0;rw [this]; rfl
 ·rw [ua (by omega)] at h
  rcases Nat.lt_or_ge (ab s) (C ^ (s.size - 1)) with h1 | h1
  ·rw [Nat.sub_zero,Nat.div_eq_of_lt h1] at h;exact absurd rfl h
  ·exact h1
theorem SE (s t:ByteArray):ab (s++t)=ab s*C ^ t.size+ab t:=by
 unfold ab;have:(s++t).data.toList=s.data.toList++t.data.toList:=by simp
 rw [this,Bd]; rfl
theorem Ky (s:ByteArray) (l h:Nat):(s.extract l h).data.toList=(s.data.toList.take h).drop l:=by
 simp [ByteArray.data_extract,List.extract,List.drop_take]
theorem EC {s:ByteArray} {l h:Nat} (h1:l≤h) (J:h≤s.size):(s.extract l h).size=h - l:=by
 rw [← size_eq,Ky];have:h≤s.data.toList.length:=J;simp; omega
theorem UC (l:List UInt8) (n:Nat) (h:n≤l.length):dt (l.drop n)=dt l % C ^ (l.length - n):=by
 have e:dt l=dt (l.take n)*C ^ (l.drop n).length+dt (l.drop n):=by rw [← Bd,List.take_append_drop]
 have J:=rZ (l.drop n);rw [List.length_drop] at e J;rw [e,Nat.mul_comm,Nat.mul_add_mod,Nat.mod_eq_of_lt J]
theorem UD (l:List UInt8) (n:Nat) (h:n≤l.length):dt (l.take n)=dt l / C ^ (l.length - n):=by
 have e:dt l=dt (l.take n)*C ^ (l.drop n).length+dt (l.drop n):=by rw [← Bd,List.take_append_drop]
 have J:=rZ (l.drop n);rw [List.length_drop] at e J;rw [e,Nat.mul_comm,Nat.mul_add_div (ia _),Nat.div_eq_of_lt J,Nat.add_zero]
theorem EG {s:ByteArray} {l h:Nat} (h1:l≤h) (J:h≤s.size):ab (s.extract l h)=ab s / C ^ (s.size - h) % C ^ (h - l):=by
 unfold ab;have j7:h≤s.data.toList.length:=J;have e:(s.data.toList.take h).length=h:=by rw [List.length_take]; omega
 rw [Ky,UC _ _ (by rw [e]; exact h1),UD _ _ j7,e]
 rfl
theorem qz (s t:ByteArray):(s.toList == t.toList)=decide (s=t):=by
 rw [ByteArray.toList_eq,ByteArray.toList_eq];by_cases h:s=t
 ·subst h; simp
 ·simp [h];intro J;exact h (G8 (by rw [J]))
theorem FB {s:ByteArray}:s=⟨#[]⟩↔s.size=0:=by
 constructor
 ·intro h; subst h; rfl
 ·intro h;refine G8 ?_;exact List.eq_nil_of_length_eq_zero h
theorem Kz {N:Nat}:nb N=⟨#[]⟩↔N=0:=by
 rw [FB,gP];exact ⟨SD,fun h=>by rw [h,wK]⟩
theorem KA:∀ {l m:List UInt8},l.length=m.length→Op.bytesLess l m=decide (dt l < dt m)
 | [],[],_=>by simp [Op.bytesLess,dt]
 | [],_::_,h=>by simp at h
 | _::_,[],h=>by simp at h
 | a::l,b::m,h=>by
  have h:l.length=m.length:=by simpa using h
  have ih:=KA h;unfold Op.bytesLess;rw [ih,rR,rR,h];have h3:=rZ l;have h4:=rZ m;rw [h] at h3;rcases Nat.lt_trichotomy a.toNat b.toNat with dJ | dJ | dJ
  ·have:a < b:=UInt8.lt_iff_toNat_lt.2 dJ;have h5:(a.toNat+1)*C ^ m.length≤b.toNat*C ^ m.length:=Nat.mul_le_mul_right _ dJ;rw [Nat.add_mul] at h5;have h6:a.toNat*C ^ m.length+dt l < b.toNat*C ^ m.length+dt m:=by omega
   simp [this,h6]
  ·have e:a=b:=UInt8.toNat_inj.1 dJ;subst e;simp
  ·have:¬ a < b:=fun h=>by have:=UInt8.lt_iff_toNat_lt.1 h; omega
   have h5:(b.toNat+1)*C ^ m.length≤a.toNat*C ^ m.length:=Nat.mul_le_mul_right _ dJ;rw [Nat.add_mul] at h5;have h6:¬ (a.toNat*C ^ m.length+dt l < b.toNat*C ^ m.length+dt m):=by omega
   have h7:¬ a=b:=fun e=>by subst e; omega
   simp [this,h6,h7]
theorem VP {s t:ByteArray} (h:s.size=t.size):Op.bytesLess s.toList t.toList=decide (ab s < ab t):=by
 rw [ByteArray.toList_eq,ByteArray.toList_eq];exact KA h
open Go
theorem sF (a:Int) (k:Nat):a.fdiv (2 ^ k)=a / 2 ^ k:=Int.fdiv_eq_ediv_of_nonneg _ (Int.le_of_lt (Int.pow_pos (by decide)))
theorem FC (b:BitVec 32):IntKind.u32.wrap (b.toNat:Int)=b.toNat:=dh (by omega) (by have:=b.isLt; omega)
theorem VQ {w:Nat} (b:BitVec w):BitVec.ofInt w (b.toNat:Int)=b:=by
 rw [BitVec.ofInt_natCast,BitVec.ofNat_toNat]; simp
theorem Xf (b:BitVec 32):(b.toNat:Int) / 2147483648=if b.msb then 1 else 0:=by
 have h:=b.isLt;rw [BitVec.msb_eq_decide];by_cases h1:2 ^ (32 - 1)≤b.toNat
 ·simp [h1]; omega
 ·simp [h1]; omega
theorem toNat_ofInt32 (x:Nat) (h:x < 4294967296):(BitVec.ofInt 32 (x:Int)).toNat=x:=by
 rw [BitVec.ofInt_natCast,BitVec.toNat_ofNat]; exact Nat.mod_eq_of_lt h
theorem EP (x:Nat) (h:x < 4294967296):(BitVec.ofInt 32 (x:Int)).msb=decide (2147483648≤x):=by
 rw [BitVec.msb_eq_decide,toNat_ofInt32 x h]
theorem Ti (x y c:Nat) (hx:x < 4294967296) (hy:y < 4294967296) (hc:c≤1) (d:Nat) (hd:d=(x+2*4294967296 - y - c) % 4294967296) :
  (((BitVec.ofInt 32 (4294967295:Int) ^^^ BitVec.ofInt 32 (x:Int)) &&& BitVec.ofInt 32 (y:Int)) ||| ((BitVec.ofInt 32 (4294967295:Int) ^^^ (BitVec.ofInt 32 (x:Int) ^^^ BitVec.ofInt 32 (y:Int))) &&& BitVec.ofInt 32 (d:Int))).msb=decide (x < y+c):=by
 have cU:d < 4294967296:=by omega
 have ho:(BitVec.ofInt 32 (4294967295:Int)).msb=true:=by decide
 rw [BitVec.msb_or,BitVec.msb_and,BitVec.msb_and,BitVec.msb_xor,BitVec.msb_xor,BitVec.msb_xor,ho,EP x hx,EP y hy,EP d cU];by_cases h1:2147483648≤x <;> by_cases J:2147483648≤y <;> by_cases h3:2147483648≤d <;> simp [h1,J,h3] <;> omega
theorem Xg (x y:Nat) (hx:x < 4294967296) (hy:y < 4294967296):((BitVec.ofInt 64 ((x:Int)*4294967296) ||| BitVec.ofInt 64 (y:Int)).toNat:Int)=(x*4294967296+y:Nat):=by
 have e1:BitVec.ofInt 64 ((x:Int)*4294967296)=BitVec.ofNat 64 (x*4294967296):=by
  rw [← BitVec.ofInt_natCast]; congr 1
 rw [e1,BitVec.ofInt_natCast,BitVec.toNat_or,BitVec.toNat_ofNat,BitVec.toNat_ofNat,Nat.mod_eq_of_lt (by omega),Nat.mod_eq_of_lt (by omega)]
 have:=Nat.shiftLeft_add_eq_or_of_lt (i:=32) (b:=y) (by simpa using hy) x
 rw [Nat.shiftLeft_eq] at this;have J:(2:Nat) ^ 32=4294967296:=by decide
 rw [J] at this;rw [← this]
theorem dV (a:Int):a.fdiv (2 ^ min (Int.toNat 31) IntKind.u64.bits)=a / 2147483648:=by rw [sF]; rfl
theorem ck (a:Int):a.fdiv (2 ^ min (Int.toNat 32) IntKind.u64.bits)=a / 4294967296:=by rw [sF]; rfl
theorem dm (a:Int):a.fdiv (2 ^ min (Int.toNat 8) IntKind.u32.bits)=a / 256:=by rw [sF]; rfl
theorem dx (a:Int):a.fdiv (2 ^ min (Int.toNat 16) IntKind.u32.bits)=a / 65536:=by rw [sF]; rfl
theorem dD (a:Int):a.fdiv (2 ^ min (Int.toNat 24) IntKind.u32.bits)=a / 16777216:=by rw [sF]; rfl
theorem c9 (a:Int):a.fdiv (2 ^ min (Int.toNat 8) IntKind.i64.bits)=a / 256:=by rw [sF]; rfl
def CE (x y c:Int):Int:=IntKind.u32.wrap (IntKind.u32.wrap (x - y) - c)
def G9 (x y c:Int):Int:=(IntKind.u32.wrap ((BitVec.ofInt 32 (IntKind.u32.wrap ((BitVec.ofInt 32 (IntKind.u32.wrap ((BitVec.ofInt 32 (4294967295:Int) ^^^ BitVec.ofInt 32 x).toNat:Int)) &&& BitVec.ofInt 32 y).toNat:Int)) |||
 BitVec.ofInt 32 (IntKind.u32.wrap ((BitVec.ofInt 32 (IntKind.u32.wrap ((BitVec.ofInt 32 (4294967295:Int) ^^^ BitVec.ofInt 32 (IntKind.u32.wrap ((BitVec.ofInt 32 x ^^^ BitVec.ofInt 32 y).toNat:Int))).toNat:Int)) &&&
  BitVec.ofInt 32 (CE x y c)).toNat:Int))).toNat:Int)).fdiv (2 ^ 31)
theorem Mk {x y c:Nat} (hx:x < 4294967296) (hy:y < 4294967296) (hc:c≤1):CE x y c=((x+2*4294967296 - y - c) % 4294967296:Nat):=by
 unfold CE;rw [wJ,wJ]; omega
theorem UE {x y c:Nat} (hx:x < 4294967296) (hy:y < 4294967296) (hc:c≤1):G9 x y c=if x < y+c then 1 else 0:=by
 unfold G9;rw [Mk hx hy hc];simp only [FC,VQ,sF];rw [show (2:Int) ^ 31=2147483648 by decide,Xf,Ti x y c hx hy hc _ rfl]
 simp
theorem Xh {x k:Nat} (h1:2 ^ k≤x) (J:x < 2 ^ (k+1)):x.log2=k:=by
 have hx:x≠0:=by have:=Nat.pow_pos (n:=k) (show 0 < 2 by decide); omega
 have a1:=(Nat.log2_lt hx).2 J;have a2:=(Nat.le_log2 hx).2 h1;omega
def fe (x:Nat):Nat:=if x=0 then 0 else x.log2+1
theorem GD (x:Nat):x < 2 ^ fe x:=by
 unfold fe
 split
 ·omega
 ·rename_i h; exact (Nat.log2_lt h).1 (Nat.lt_succ_self _)
theorem Kh {x:Nat} (h:x≠0):2 ^ (fe x - 1)≤x:=by
 unfold fe;rw [if_neg h];exact (Nat.le_log2 h).1 (Nat.le_refl _)
theorem Xi {x k:Nat} (h1:x < 2 ^ k) (J:k=0∨2 ^ (k - 1)≤x):fe x=k:=by
 rcases J with rfl | J
 ·have:x=0:=by simpa using h1
  subst this; rfl
 ·by_cases h0:k=0
  ·subst h0;have:x=0:=by simpa using h1
   subst this; rfl
  ·have hx:x≠0:=by have:=Nat.pow_pos (n:=k - 1) (show 0 < 2 by decide); omega
   unfold fe;rw [if_neg hx,Xh J (by rw [show k - 1+1=k by omega]; exact h1)]
   omega
theorem Bp {x k:Nat} (h:2 ^ k≤x):fe x=k+fe (x / 2 ^ k):=by
 have hp:=Nat.pow_pos (n:=k) (show 0 < 2 by decide)
 have hq:x / 2 ^ k≠0:=by have:=Nat.div_pos h hp; omega
 have hb:0 < fe (x / 2 ^ k):=by unfold fe; rw [if_neg hq]; omega
 refine Xi ?_ (.inr ?_)
 ·have:=GD (x / 2 ^ k);rw [Nat.pow_add,Nat.mul_comm];exact (Nat.div_lt_iff_lt_mul hp).1 this
 ·have:=Kh hq;rw [show k+fe (x / 2 ^ k) - 1=k+(fe (x / 2 ^ k) - 1) by omega,Nat.pow_add,Nat.mul_comm]
  exact (Nat.le_div_iff_mul_le hp).1 this
theorem dz (x y:Nat) (hx:x < 4294967296) (hy:y < 4294967296):IntKind.u64.wrap ((BitVec.ofInt IntKind.u64.bits ((x:Int)*4294967296) ||| BitVec.ofInt IntKind.u64.bits (y:Int)).toNat:Int)=(x:Int)*4294967296+y:=by
 have h:=Xg x y hx hy;have:IntKind.u64.wrap ((BitVec.ofInt 64 ((x:Int)*4294967296) ||| BitVec.ofInt 64 (y:Int)).toNat:Int)=(x:Int)*4294967296+y:=by
  rw [h,bN (by omega) (by omega)]; omega
 exact this
theorem Xj (x y:Nat) (hx:x < 36028797018963968) (hy:y < 256):((BitVec.ofInt 64 ((x:Int)*256) ||| BitVec.ofInt 64 (y:Int)).toNat:Int)=(x*256+y:Nat):=by
 have e1:BitVec.ofInt 64 ((x:Int)*256)=BitVec.ofNat 64 (x*256):=by
  rw [← BitVec.ofInt_natCast]; congr 1
 rw [e1,BitVec.ofInt_natCast,BitVec.toNat_or,BitVec.toNat_ofNat,BitVec.toNat_ofNat,Nat.mod_eq_of_lt (by omega),Nat.mod_eq_of_lt (by omega)]
 have:=Nat.shiftLeft_add_eq_or_of_lt (i:=8) (b:=y) (by simpa using hy) x
 rw [Nat.shiftLeft_eq] at this;have J:(2:Nat) ^ 8=256:=by decide
 rw [J] at this;rw [← this]
theorem dL (x y:Nat) (hx:x < 36028797018963968) (hy:y < 256):IntKind.i64.wrap ((BitVec.ofInt IntKind.i64.bits ((x:Int)*256) ||| BitVec.ofInt IntKind.i64.bits (y:Int)).toNat:Int)=(x:Int)*256+y:=by
 have h:=Xj x y hx hy;have:IntKind.i64.wrap ((BitVec.ofInt 64 ((x:Int)*256) ||| BitVec.ofInt 64 (y:Int)).toNat:Int)=(x:Int)*256+y:=by
  rw [h,ax (by omega) (by omega)]; omega
 exact this
theorem toNat_cast (n:Nat):((n:Int)).toNat=n:=Int.toNat_natCast n
theorem Xk {x:Nat} (h:x < 256):fe x≤8:=by
 unfold fe
 split
 ·omega
 ·rename_i h0; have:=(Nat.log2_lt h0).2 (show x < 2 ^ 8 from h); omega
theorem M0 {x:Nat} (h:x < 4294967296):fe x≤32:=by
 unfold fe
 split
 ·omega
 ·rename_i h0; have:=(Nat.log2_lt h0).2 (show x < 2 ^ 32 from h); omega
theorem dU (c:Nat):uG c 0=c:=by
 unfold uG;cases h:decide (c=aO) with
 | true=>exact (of_decide_eq_true h).symm
 | false=>rfl
theorem toNat_0:Int.toNat 0=0:=rfl
theorem toNat_1:Int.toNat 1=1:=rfl
theorem Ha (x y k:Nat) (hx:x < 2 ^ k):x ||| (y*2 ^ k)=x+y*2 ^ k:=by
 have:=Nat.shiftLeft_add_eq_or_of_lt hx y;rw [Nat.shiftLeft_eq] at this;rw [Nat.or_comm,← this,Nat.add_comm]
theorem Tj (x y e:Nat) (hx:x < 256 ^ e) (hy:y < 256) (he:e < 4):IntKind.u32.wrap ((BitVec.ofInt IntKind.u32.bits (x:Int) ||| BitVec.ofInt IntKind.u32.bits (IntKind.u32.wrap ((y:Int)*2 ^ (min (8*e) IntKind.u32.bits)))).toNat:Int)=((x+y*256 ^ e:Nat):Int):=by
 have hp:(256:Nat) ^ e=2 ^ (8*e):=by rw [show (256:Nat)=2 ^ 8 from rfl,← Nat.pow_mul]
 have al:x+y*2 ^ (8*e) < 4294967296:=by
  have h1:(y+1)*2 ^ (8*e)≤256*2 ^ (8*e):=Nat.mul_le_mul_right _ hy;have J:256*2 ^ (8*e)≤4294967296:=by
   have:2 ^ (8*e)≤2 ^ 24:=Nat.pow_le_pow_right (by decide) (by omega)
   omega
  rw [Nat.add_mul] at h1;rw [hp] at hx;omega
 have qY:x < 2 ^ (8*e):=by rw [← hp]; exact hx
 have e1:IntKind.u32.wrap ((y:Int)*2 ^ (min (8*e) 32))=((y*2 ^ (8*e):Nat):Int):=by
  rw [show min (8*e) 32=8*e by omega]
  have:((y*2 ^ (8*e):Nat):Int)=(y:Int)*2 ^ (8*e):=by simp
  rw [← this,dh (by omega) (by omega)]
 have key:IntKind.u32.wrap ((BitVec.ofInt 32 (x:Int) ||| BitVec.ofInt 32 (IntKind.u32.wrap ((y:Int)*2 ^ (min (8*e) 32)))).toNat:Int)=((x+y*256 ^ e:Nat):Int):=by
  rw [e1,FC,BitVec.toNat_or,toNat_ofInt32 _ (by omega),toNat_ofInt32 _ (by omega),Ha _ _ _ qY,hp]
 exact key
theorem OH {N n:Nat} (h:N < B ^ n) (J:n=0∨B ^ (n - 1)≤N):nl N=n:=by
 rcases J with rfl | J
 ·have:=jQ h; omega
 ·have h3:=jQ h;rcases Nat.lt_or_ge (nl N) n with h4 | h4
  ·have h5:B ^ nl N≤B ^ (n - 1):=Nat.pow_le_pow_right (by decide) (by omega)
   have:=b8 N;omega
  ·omega
theorem Dq (n:Nat):B ^ n=C ^ (4*n):=by rw [Nat.pow_mul]; rfl
theorem OI (N:Nat):nl N=(aT N+3) / 4:=by
 refine OH ?_ ?_
 ·rw [Dq];exact Nat.lt_of_lt_of_le (lG N) (Nat.pow_le_pow_right (by decide) (by omega))
 ·by_cases h:N=0
  ·left; subst h; rw [wK]
  ·right
   have:=GC h;rw [Dq];exact Nat.le_trans (Nat.pow_le_pow_right (by decide) (by omega)) (RZ h)
theorem UF (N i:Nat):cG (N % C ^ i) (i / 4) (an (N % C ^ i) (i / 4)+N / C ^ i % C*256 ^ (i % 4))=N % C ^ (i+1)∧an (N % C ^ i) (i / 4) < 256 ^ (i % 4):=by
 have hB:B ^ (i / 4)*256 ^ (i % 4)=C ^ i:=by
  rw [Dq,← Nat.pow_add]; congr 1; omega
 have al:N % C ^ i < C ^ i:=Nat.mod_lt _ (ia i);have hl:an (N % C ^ i) (i / 4) < 256 ^ (i % 4):=by
  have h1:N % C ^ i / B ^ (i / 4) < 256 ^ (i % 4):=(Nat.div_lt_iff_lt_mul (eD _)).2 (by rw [Nat.mul_comm,hB]; exact al)
  unfold an;exact Nat.lt_of_le_of_lt (Nat.mod_le _ _) h1
 refine ⟨?_,hl⟩;have h:=pS (N % C ^ i) (i / 4) (an (N % C ^ i) (i / 4)+N / C ^ i % C*256 ^ (i % 4));have e:N % C ^ (i+1)=N % C ^ i+C ^ i*(N / C ^ i % C):=by rw [Nat.pow_succ,Nat.mod_mul]
 have e2:N / C ^ i % C*256 ^ (i % 4)*B ^ (i / 4)=C ^ i*(N / C ^ i % C):=by
  rw [Nat.mul_assoc,Nat.mul_comm (256 ^ (i % 4)),hB,Nat.mul_comm]
 rw [Nat.add_mul,e2] at h;omega
theorem dM (a:Nat):((a:Int)).tdiv 4=((a / 4:Nat):Int):=rfl
theorem dY (a:Nat):((a:Int)).tmod 4=((a % 4:Nat):Int):=rfl
theorem dW (a:Nat):(8:Int)*(a:Int)=((8*a:Nat):Int):=by omega
theorem dZ {m:Nat} (h:0 < m):(m:Int) - 1=((m - 1:Nat):Int):=by omega
theorem ef (m:Nat):(m:Int)+1=((m+1:Nat):Int):=by omega
theorem eE {a b:Nat} (h:b≤a):(a:Int) - (b:Int)=((a - b:Nat):Int):=by omega
theorem eF (a b:Nat):(a:Int)+(b:Int)=((a+b:Nat):Int):=by omega
theorem eg (a:Nat):(8:Int)*(a:Int)=((8*a:Nat):Int):=by omega
theorem VR {Q L m r:Nat} (hL:L < B) (hr:r < m):(Q*B+L) / C ^ (m+4 - 1 - r) % C=Q / C ^ (m - 1 - r) % C:=by
 have e:C ^ (m+4 - 1 - r)=B*C ^ (m - 1 - r):=by
  rw [show m+4 - 1 - r=4+(m - 1 - r) by omega,Nat.pow_add]; rfl
 rw [e,← Nat.div_div_eq_div_mul];have:(Q*B+L) / B=Q:=by rw [Nat.mul_comm,Nat.mul_add_div (by decide),Nat.div_eq_of_lt hL,Nat.add_zero]
 rw [this]
theorem VS {Q L e:Nat} (he:e≤3):(Q*B+L) / C ^ e % C=L / C ^ e % C:=by
 have h:B=C ^ e*(C ^ (3 - e)*C):=by
  rw [← Nat.mul_assoc,← Nat.pow_add,← Nat.pow_succ,show (e+(3 - e)).succ=4 by omega]; rfl
 rw [show Q*B=C ^ e*(Q*C ^ (3 - e)*C) by rw [h,Nat.mul_comm Q,Nat.mul_assoc,Nat.mul_comm (C ^ (3 - e)*C) Q,Nat.mul_assoc Q]]
 rw [Nat.mul_add_div (ia _),Nat.mul_add_mod_self_right]
theorem NR:∀ {n Y r:Nat} (h:r < n),(pI n Y)[r]?=some (UInt8.ofNat (Y / C ^ (n - 1 - r) % C))
 | n+1,Y,r,h=>by
  unfold pI;by_cases hr:r < n
  ·rw [List.getElem?_append_left (by rw [wj]; exact hr),NR hr,Nat.div_div_eq_div_mul,← Nat.pow_succ']
   congr 5; omega
  ·have:r=n:=by omega
   subst this;rw [List.getElem?_append_right (by rw [wj]; exact Nat.le_refl _),wj]
   simp
theorem wk {g:Nat→List Value} {m X:Nat} (h:∀ r,r < m→g r=[.int .u8 ((X / C ^ (m - 1 - r) % C:Nat):Int)]):(⟨⟨bytesOf g 0 m⟩⟩:ByteArray)=be m X:=by
 unfold be
 congr 2
 apply List.ext_getElem?;intro r;by_cases hr:r < m
 ·rw [NR hr];unfold bytesOf;rw [List.getElem?_map,List.getElem?_range hr];simp only [Option.map_some,Nat.zero_add,h r hr,toNat_cast]
 ·rw [List.getElem?_eq_none (l:=pI m X) (by rw [wj]; omega),List.getElem?_eq_none (by simp [bytesOf]; omega)]
theorem dy (a:Int):a*2 ^ min (Int.toNat 32) IntKind.u64.bits=a*4294967296:=rfl
theorem dX (a:Int):a*2 ^ min (Int.toNat 8) IntKind.i64.bits=a*256:=rfl
theorem Pp (L:Nat):IntKind.u8.wrap ((L:Int) / 16777216)=((L / C ^ 3 % C:Nat):Int):=by rw [lz]; rfl
theorem Pq (L:Nat):IntKind.u8.wrap ((L:Int) / 65536)=((L / C ^ 2 % C:Nat):Int):=by rw [lz]; rfl
theorem Qb (L:Nat):IntKind.u8.wrap ((L:Int) / 256)=((L / C ^ 1 % C:Nat):Int):=by rw [lz]; rfl
theorem Qc (L:Nat):IntKind.u8.wrap (L:Int)=((L / C ^ 0 % C:Nat):Int):=by rw [lz,Nat.pow_zero,Nat.div_one]; rfl
theorem Lt {N i m:Nat} {g:Nat→List Value} (hi:0 < i) (hg:∀ r,r < m→g r=[.int .u8 ((N / B ^ i / C ^ (m - 1 - r) % C:Nat):Int)]) {L0 L1 L2 L3:List Value}
  (h0:L0=[.int .u8 ((an N (i - 1) / C ^ 3 % C:Nat):Int)]) (h1:L1=[.int .u8 ((an N (i - 1) / C ^ 2 % C:Nat):Int)]) (J:L2=[.int .u8 ((an N (i - 1) / C ^ 1 % C:Nat):Int)]) (h3:L3=[.int .u8 ((an N (i - 1) / C ^ 0 % C:Nat):Int)]) :
  ∀ r,r < m+4→iM g m (fun j=>[L0,L1,L2,L3].getD j []) r=[.int .u8 ((N / B ^ (i - 1) / C ^ (m+4 - 1 - r) % C:Nat):Int)]:=by
 intro r hr;have hd:=pZ N (i - 1);rw [show i - 1+1=i by omega] at hd
 have hd:N / B ^ (i - 1)=N / B ^ i*B+an N (i - 1):=by rw [hd,Nat.add_comm,Nat.mul_comm]
 by_cases h:r < m
 ·rw [jo h,hg r h,hd,VR (cI _ _) h]
 ·rw [gD (by omega),hd,VS (by omega)]
  have:r - m=0∨r - m=1∨r - m=2∨r - m=3:=by omega
  rcases this with e | e | e | e <;> rw [e]
  ·rw [show m+4 - 1 - r=3 by omega]; exact h0
  ·rw [show m+4 - 1 - r=2 by omega]; exact h1
  ·rw [show m+4 - 1 - r=1 by omega]; exact J
  ·rw [show m+4 - 1 - r=0 by omega]; exact h3
theorem Be {Y i d:Nat} (hY:Y < B ^ i):cG Y i d=Y+d*B ^ i:=by
 have h:=pS Y i d;rw [ug hY (Nat.le_refl _),Nat.zero_mul,Nat.add_zero] at h;exact h
theorem SF {x y b d b' P K Y u v:Nat} (hY:Y < P) (he:u+b*P=Y+v) (hd:x+b'*K=y+b+d) (dK:d < K):Y+d*P < P*K∧u+x*P+b'*(P*K)=Y+d*P+(v+y*P):=by
 have h1:(x+b'*K)*P=(y+b+d)*P:=by rw [hd]
 rw [Nat.add_mul,Nat.add_mul,Nat.add_mul] at h1;have J:b'*(P*K)=b'*K*P:=by rw [Nat.mul_comm P,Nat.mul_assoc]
 have h3:(d+1)*P≤P*K:=by rw [Nat.mul_comm P]; exact Nat.mul_le_mul_right _ dK
 rw [Nat.add_mul,Nat.one_mul] at h3;rw [J];exact ⟨by omega,by omega⟩
theorem Tk {A D Y b i d b':Nat} (hY:Y < B ^ i) (he:A % B ^ i+b*B ^ i=Y+D % B ^ i) (hd:an A i+b'*B=an D i+b+d) (dK:d < B) :
  cG Y i d < B ^ (i+1)∧A % B ^ (i+1)+b'*B ^ (i+1)=cG Y i d+D % B ^ (i+1):=by
 rw [Be hY,mod_succ A i,mod_succ D i,Nat.pow_succ];exact SF hY he hd dK
theorem mj {Z j d m:Nat} (hZ:Z < B ^ m) (hj:j < m) (hd:d < B):cG Z j d < B ^ m:=by
 have h1:(cG Z j d) / B ^ m=0:=by
  have e:B ^ m=B ^ j*(B*B ^ (m - j - 1)):=by
   rw [← Nat.mul_assoc,← Nat.pow_succ,← Nat.pow_add,show j+1+(m - j - 1)=m by omega]
  have ha:Z % B ^ j < B ^ j:=Nat.mod_lt _ (eD j);unfold cG;rw [e,← Nat.div_div_eq_div_mul,oK ha,← Nat.div_div_eq_div_mul,oK hd,Nat.div_div_eq_div_mul,← Nat.pow_add,show j+1+(m - j - 1)=m by omega]
  exact Nat.div_eq_of_lt hZ
 rcases Nat.lt_or_ge (cG Z j d) (B ^ m) with h | h
 ·exact h
 ·have:=Nat.div_pos h (eD m);omega
theorem KV {Z Z' l c x d P Q K t Y v:Nat} (he:Z+c*(P*Q)=Y+x*v*P) (hs:Z'+l*(P*Q)=Z+t % K*(P*Q)) (ht:t=c+(x*d+l)) :
  Z'+t / K*(P*Q*K)=Y+x*(v+d*Q)*P:=by
 have h1:=Nat.mod_add_div t K;have J:(t % K+K*(t / K))*(P*Q)=(c+(x*d+l))*(P*Q):=by rw [h1,ht]
 rw [Nat.add_mul,Nat.add_mul,Nat.add_mul] at J;have e1:K*(t / K)*(P*Q)=t / K*(P*Q*K):=by
  rw [Nat.mul_comm K,Nat.mul_assoc,Nat.mul_comm K]
 have e2:x*(v+d*Q)*P=x*v*P+x*d*(P*Q):=by
  rw [Nat.mul_add,Nat.add_mul,← Nat.mul_assoc x d Q,Nat.mul_assoc (x*d),Nat.mul_comm Q P]
 rw [e1] at J;rw [e2];generalize t / K*(P*Q*K)=a1 at *;generalize t % K*(P*Q)=a2 at *;generalize c*(P*Q)=a3 at *;generalize x*d*(P*Q)=a4 at *;generalize l*(P*Q)=a5 at *;generalize x*v*P=a6 at *;omega
theorem KW {c x d l K t:Nat} (hc:c < K) (hx:x < K) (hd:d < K) (hl:l < K) (ht:t=c+(x*d+l)):t / K < K∧t < K*K:=by
 have h1:(x+1)*(d+1)≤K*K:=Nat.mul_le_mul hx hd;have J:t < K*K:=by
  rw [Nat.add_mul,Nat.mul_add] at h1;by_cases hk:K=0
  ·omega
  ·have h3:x*d≤(K - 1)*(K - 1):=Nat.mul_le_mul (by omega) (by omega)
   obtain ⟨k,rfl⟩:∃ k,K=k+1:=⟨K - 1,by omega⟩
   rw [Nat.add_sub_cancel] at h3;have e:(k+1)*(k+1)=k*k+k+k+1:=by rw [Nat.add_mul,Nat.mul_add]; omega
   omega
 exact ⟨(Nat.div_lt_iff_lt_mul (by omega)).2 J,J⟩
theorem Tl {Z c x D i k t Y:Nat} (he:Z+c*B ^ (i+k)=Y+x*(D % B ^ k)*B ^ i) (ht:t=c+(x*an D k+an Z (i+k))) :
  cG Z (i+k) (t % B)+t / B*B ^ (i+(k+1))=Y+x*(D % B ^ (k+1))*B ^ i:=by
 have hs:=pS Z (i+k) (t % B);rw [mod_succ D k,← Nat.add_assoc,Nat.pow_succ];rw [Nat.pow_add] at he hs ⊢;exact KV he hs ht
theorem UG {A D Y Z c i n:Nat} (hY:Y=A % B ^ i*D) (hD:D < B ^ n) (hZ:Z < B ^ (i+n)) (he:Z+c*B ^ (i+n)=Y+an A i*(D % B ^ n)*B ^ i) :
  cG Z (i+n) c=A % B ^ (i+1)*D:=by
 rw [Be hZ,he,Nat.mod_eq_of_lt hD,hY,mod_succ,Nat.add_mul,Nat.mul_assoc (an A i),Nat.mul_comm D,← Nat.mul_assoc]
theorem UH {c x d l t:Nat} (hc:c < B) (hx:x < B) (hd:d < B) (hl:l < B) (ht:t=c+(x*d+l)) :
  IntKind.u64.wrap ((c:Int)+IntKind.u64.wrap (IntKind.u64.wrap (IntKind.u64.wrap (x:Int)*IntKind.u64.wrap (d:Int))+IntKind.u64.wrap (l:Int)))=(t:Int):=by
 have hB:B=4294967296:=rfl;have h:=(KW hc hx hd hl ht).2;have hm:((x:Int)*(d:Int))=((x*d:Nat):Int):=by simp
 rw [bN (x:=(x:Int)) (by omega) (by omega),bN (x:=(d:Int)) (by omega) (by omega),bN (x:=(l:Int)) (by omega) (by omega),hm]
 generalize x*d=m at *;rw [hB] at h;rw [bN (x:=(m:Int)) (by omega) (by omega),bN (x:=(m:Int)+(l:Int)) (by omega) (by omega),bN (by omega) (by omega)]
 omega
theorem eK (t:Nat):IntKind.u32.wrap (t:Int)=((t % B:Nat):Int):=by rw [wJ]; rfl
theorem jR (t:Nat):(t:Int) / 4294967296=((t / B:Nat):Int):=rfl
open Go
def u32 (n:Nat):Value:=.int .u32 n
def i64 (n:Int):Value:=.int .i64 n
def uK:bF:={ ι:=Nat × Nat × Nat,args:=fun i=>[.int .u32 i.1,.int .u32 i.2.1,.int .u32 i.2.2],pre:=fun i=>i.1 < 4294967296∧i.2.1 < 4294967296∧i.2.2≤1,val:=fun i=>.tuple ⟨[.int .u32 ((i.1+i.2.1+i.2.2) % 4294967296:Nat),.int .u32 ((i.1+i.2.1+i.2.2) / 4294967296:Nat)]⟩ }
def lH:bF:={ ι:=Nat × Nat × Nat,args:=fun i=>[.int .u32 i.1,.int .u32 i.2.1,.int .u32 i.2.2],pre:=fun i=>i.1 < 4294967296∧i.2.1 < 4294967296∧i.2.2≤1,val:=fun i=>.tuple ⟨[.int .u32 ((i.1+2*4294967296 - i.2.1 - i.2.2) % 4294967296:Nat),.int .u32 (if i.1 < i.2.1+i.2.2 then 1 else 0:Nat)]⟩ }
def CF:bF:={ ι:=Nat × Nat × Nat,args:=fun i=>[.int .u32 i.1,.int .u32 i.2.1,.int .u32 i.2.2],pre:=fun i=>i.1 < i.2.2∧i.2.1 < 4294967296∧i.2.2 < 4294967296,val:=fun i=>.tuple ⟨[.int .u32 ((i.1*4294967296+i.2.1) / i.2.2:Nat),.int .u32 ((i.1*4294967296+i.2.1) % i.2.2:Nat)]⟩ }
def Hb:bF:={ ι:=Nat,args:=fun x=>[.int .u32 x],pre:=fun x=>x < 4294967296,val:=fun x=>.int .i64 (fe x:Nat) }
def C1:bF:={ ι:=Nat,args:=fun x=>[.int .u32 x],pre:=fun x=>x < 4294967296,val:=fun x=>.int .i64 (32 - fe x:Nat) }
def Az:Nat:=1099511627776
def kP:bF:={ ι:=ByteArray,args:=fun s=>[.string s],pre:=fun s=>s.size≤1099511627776,val:=fun s=>.string (nb (ab s)) }
abbrev LV:=Option (Nat × Nat × Nat)
def LV.val:LV→Value
 | none=>.slice none 0 0
 | some (n,_,c)=>.slice (some ⟨0,0,none⟩) n c
def LV.ah:LV→List ai
 | none=>[]
 | some (n,N,_)=>[.flat false n 1 (bu N)]
def LV.num:LV→Nat
 | none=>0
 | some (_,N,_)=>N
def LV.ok:LV→Prop
 | none=>True
 | some (n,N,_)=>N < 4294967296 ^ n∧n≤274877906944
def LV.cut:LV→Value
 | none=>.slice none 0 0
 | some (_,N,c)=>.slice (some ⟨0,0,none⟩) (nl N) c
def sG:aY:={ ι:=LV,args:=fun i=>[i.val],ah:=LV.ah,pre:=LV.ok,val:=LV.cut,new:=fun _=>none }
def y8:aY:={ ι:=LV,args:=fun i=>[i.val],ah:=LV.ah,pre:=LV.ok,val:=fun i=>.string (nb i.num),new:=fun _=>none }
def uX:aY:={ ι:=ByteArray,args:=fun s=>[.string s],ah:=fun _=>[],pre:=fun s=>s.size≤1099511627776,val:=fun s=>.slice (some ⟨0,0,none⟩) (nl (ab s)) aO,new:=fun s=>some (.flat false (nl (ab s)) 1 (bu (ab s))) }
def uY:aY:={ ι:=Bool × LV,args:=fun i=>[.bool i.1,i.2.val],ah:=fun i=>i.2.ah,pre:=fun i=>i.2.ok,val:=fun i=>.agg ⟨[.bool (i.1 && i.2.num != 0),.string (nb i.2.num)]⟩,new:=fun _=>none }
def two (A ca D cd:Nat):List Value:=[.slice (some ⟨0,0,none⟩) (nl A) ca,.slice (some ⟨1,0,none⟩) (nl D) cd]
def kz (A D:Nat):List ai:=[.flat false (nl A) 1 (bu A),.flat false (nl D) 1 (bu D)]
abbrev I2:=Nat × Nat × Nat × Nat
def y9 (i:I2):Prop:=nl i.1≤137438953472∧nl i.2.2.1≤137438953472
def cM (A D:Nat):Int:=if A < D then -1 else if D < A then 1 else 0
def wL:aY:={ ι:=I2,args:=fun i=>two i.1 i.2.1 i.2.2.1 i.2.2.2,ah:=fun i=>kz i.1 i.2.2.1,pre:=y9,val:=fun i=>.int .i64 (cM i.1 i.2.2.1),new:=fun _=>none }
def kZ (id N:Nat):Value:=.slice (some ⟨id,0,none⟩) (nl N) aO
def dN (N:Nat):ai:=.flat false (nl N) 1 (bu N)
def C2:aY:={ ι:=I2,args:=fun i=>two i.1 i.2.1 i.2.2.1 i.2.2.2,ah:=fun i=>kz i.1 i.2.2.1,pre:=y9,val:=fun i=>kZ 2 (i.1+i.2.2.1),new:=fun i=>some (dN (i.1+i.2.2.1)) }
def CG:aY:={ ι:=I2,args:=fun i=>two i.1 i.2.1 i.2.2.1 i.2.2.2,ah:=fun i=>kz i.1 i.2.2.1,pre:=fun i=>y9 i∧i.2.2.1≤i.1,val:=fun i=>kZ 2 (i.1 - i.2.2.1),new:=fun i=>some (dN (i.1 - i.2.2.1)) }
def CH:aY:={ ι:=I2,args:=fun i=>two i.1 i.2.1 i.2.2.1 i.2.2.2,ah:=fun i=>kz i.1 i.2.2.1,pre:=y9,val:=fun i=>kZ 2 (i.1*i.2.2.1),new:=fun i=>some (dN (i.1*i.2.2.1)) }
open Go
theorem Lu {Y c P K a d x y t:Nat} (he:Y+c*P=a+d) (ht:t=c+x+y):Y+t % K*P+t / K*(P*K)=(a+x*P)+(d+y*P):=by
 have h:=Nat.mod_add_div t K;have e1:t*P=t % K*P+t / K*(P*K):=by
  calc t*P=(t % K+K*(t / K))*P:=by rw [h]
   _=t % K*P+t / K*(P*K):=by rw [Nat.add_mul,Nat.mul_comm K,Nat.mul_assoc,Nat.mul_comm K P]
 have e2:t*P=c*P+x*P+y*P:=by rw [ht,Nat.add_mul,Nat.add_mul]
 omega
theorem Ml {X D Y c i t:Nat} (he:Y+c*B ^ i=X % B ^ i+D % B ^ i) (ht:t=c+an X i+an D i) :
  Y+t % B*B ^ i+t / B*B ^ (i+1)=X % B ^ (i+1)+D % B ^ (i+1):=by
 rw [mod_succ X i,mod_succ D i,Nat.pow_succ];exact Lu he ht
theorem wm {Y d i:Nat} (hY:Y < B ^ i) (hd:d < B):Y+d*B ^ i < B ^ (i+1):=by
 have h:(d+1)*B ^ i≤B*B ^ i:=Nat.mul_le_mul_right _ hd;rw [Nat.pow_succ,Nat.mul_comm (B ^ i) B];rw [Nat.add_mul] at h;omega
theorem VT {Y d i:Nat} (hY:Y < B ^ i) (hd:d < B) {r:Nat} (hr:r < i+1):an (Y+d*B ^ i) r=if r < i then an Y r else d:=by
 rw [← Be hY,F1 hd]
 split <;> split <;> first | rfl | omega
theorem Cf {Y d i:Nat} (hY:Y < B ^ i) (hd:d < B) {g:Nat→List Value} (hg:∀ r,r < i→g r=bu Y r) :
  ∀ r,r < i+1→iM g i (fun j=>[[Value.int .u32 (d:Nat)]].getD j []) r=bu (Y+d*B ^ i) r:=by
 intro r hr;have h:=VT hY hd hr;by_cases h1:r < i
 ·rw [jo h1,hg r h1];rw [if_pos h1] at h;simp [bu,h]
 ·rw [gD (by omega),show r - i=0 by omega]
  rw [if_neg h1] at h;simp [bu,h]
theorem BP {a b:Nat} (ha:a < 4611686018427387904) (hb:b < 4611686018427387904):IntKind.u64.wrap ((a:Int)+IntKind.u64.wrap (b:Int))=((a+b:Nat):Int):=by
 rw [bN (x:=(b:Int)) (by omega) (by omega),bN (by omega) (by omega)]; omega
open Go
theorem Lv {A d i t:Nat} (hd:0 < d) (ht:t=A / B ^ (i+1) % d*B+an A i) :
  A / B ^ i % d=t % d∧A / B ^ i / d=A / B ^ (i+1) / d*B+t / d:=by
 have h:=pZ A i;have J:=Nat.mod_add_div (A / B ^ (i+1)) d;have e:A / B ^ i=t+d*(A / B ^ (i+1) / d*B):=by
  rw [h,ht];have:B*(A / B ^ (i+1))=B*(A / B ^ (i+1) % d)+d*(A / B ^ (i+1) / d*B):=by
   conv=>lhs; rw [← J]
   rw [Nat.mul_add,Nat.mul_comm (A / B ^ (i+1) / d) B,Nat.mul_left_comm]
  rw [this,Nat.mul_comm B (A / B ^ (i+1) % d)];omega
 constructor
 ·rw [e,Nat.add_mul_mod_self_left]
 ·rw [e,Nat.add_mul_div_left _ _ hd]; omega
theorem KB (K i:Nat):an (K*B ^ (i+1)) i=0:=by
 unfold an;rw [Nat.pow_succ,Nat.mul_comm (B ^ i),← Nat.mul_assoc,Nat.mul_div_cancel _ (eD i)];exact Nat.mul_mod_left _ _
theorem Ey {Y i d:Nat} (h:an Y i=0):cG Y i d=Y+d*B ^ i:=by
 have:=pS Y i d;rw [h] at this;omega
theorem UI {A d i t:Nat} (hd:0 < d) (ht:t=A / B ^ (i+1) % d*B+an A i):cG (A / B ^ (i+1) / d*B ^ (i+1)) i (t / d)=A / B ^ i / d*B ^ i:=by
 rw [Ey (KB _ _),(Lv hd ht).2,Nat.pow_succ,Nat.add_mul,Nat.mul_assoc,Nat.mul_comm B]
theorem VU {A d i t:Nat} (hd:0 < d) (ht:t=A / B ^ (i+1) % d*B+an A i):t / d < B:=by
 have h1:=Nat.mod_lt (A / B ^ (i+1)) hd;have J:=cI A i;refine (Nat.div_lt_iff_lt_mul hd).2 ?_;have h3:(A / B ^ (i+1) % d+1)*B≤d*B:=Nat.mul_le_mul_right _ h1;rw [Nat.mul_comm d B] at h3;rw [Nat.add_mul] at h3;omega
theorem wM {s:Nat} (h:s≤31):2 ^ s≤2147483648:=Nat.le_trans (Nat.pow_le_pow_right (by decide) h) (by decide:2 ^ 31≤2147483648)
theorem Xl {s l:Nat} (hs:s≤31) (hl:l < B):IntKind.u64.wrap ((l:Int)*2 ^ min s IntKind.u64.bits)=((l*2 ^ s:Nat):Int):=by
 have h:=wM hs;have e:min s IntKind.u64.bits=s:=by show min s 64=s; omega
 rw [e];have J:l*2 ^ s≤4294967296*2147483648:=Nat.mul_le_mul (Nat.le_of_lt hl) h;have:((l*2 ^ s:Nat):Int)=(l:Int)*2 ^ s:=by simp
 rw [← this,bN (by omega) (by omega)]
theorem NS {s l:Nat} (hs:s≤31):(l:Int).fdiv (2 ^ min s IntKind.u64.bits)=((l / 2 ^ s:Nat):Int):=by
 have e:min s IntKind.u64.bits=s:=by show min s 64=s; omega
 rw [e,sF];simp
theorem Z5 {u l s:Nat} (hs:s≤31) (hu:u < 2 ^ s):IntKind.u32.wrap ((BitVec.ofInt IntKind.u32.bits (u:Int) ||| BitVec.ofInt IntKind.u32.bits ((l*2 ^ s % B:Nat):Int)).toNat:Int)=((u+l*2 ^ s % B:Nat):Int):=by
 have h:=wM hs;have hv:l*2 ^ s % B < 4294967296:=Nat.mod_lt _ (by decide)
 have e:l*2 ^ s % B=(l % 2 ^ (32 - s))*2 ^ s:=by
  have:B=2 ^ (32 - s)*2 ^ s:=by rw [← Nat.pow_add,show 32 - s+s=32 by omega]
  rw [this,Nat.mul_mod_mul_right]
 have key:IntKind.u32.wrap ((BitVec.ofInt 32 (u:Int) ||| BitVec.ofInt 32 ((l*2 ^ s % B:Nat):Int)).toNat:Int)=((u+l*2 ^ s % B:Nat):Int):=by
  rw [FC,BitVec.toNat_or,toNat_ofInt32 _ (by omega),toNat_ofInt32 _ hv,e,Ha _ _ _ hu]
 exact key
theorem Pr {u l s:Nat} (hs:s≤31) (hu:u < 2 ^ s):u+l*2 ^ s % B < B:=by
 have h:=wM hs;have hv:l*2 ^ s % B < 2 ^ 32:=Nat.mod_lt _ (by decide)
 have e:l*2 ^ s % B=(l % 2 ^ (32 - s))*2 ^ s:=by
  have:B=2 ^ (32 - s)*2 ^ s:=by rw [← Nat.pow_add,show 32 - s+s=32 by omega]
  rw [this,Nat.mul_mod_mul_right]
 rw [e] at hv ⊢;rw [← Ha _ _ _ hu];exact Nat.or_lt_two_pow (n:=32) (Nat.lt_of_lt_of_le hu (by omega)) hv
theorem Lw {A s i:Nat}:an (A % B ^ i*2 ^ s) i < 2 ^ s:=by
 refine Nat.lt_of_le_of_lt (Nat.mod_le _ _) ?_;refine (Nat.div_lt_iff_lt_mul (eD i)).2 ?_;rw [Nat.mul_comm];exact Nat.mul_lt_mul_of_pos_left (Nat.mod_lt _ (eD i)) (Nat.pow_pos (by decide))
theorem VV {A s i:Nat} (hs:s≤31):A % B ^ i*2 ^ s < B ^ (i+1):=by
 have h:=wM hs;rw [Nat.pow_succ];exact Nat.mul_lt_mul_of_lt_of_le (Nat.mod_lt _ (eD i)) (by show _≤4294967296; omega) (by decide)
theorem Tm {A s i:Nat} (hs:s≤31):cG (cG (A % B ^ i*2 ^ s) i (an (A % B ^ i*2 ^ s) i+an A i*2 ^ s % B)) (i+1) (an A i*2 ^ s / B)=A % B ^ (i+1)*2 ^ s:=by
 have al:=VV (A:=A) (i:=i) hs;have Jy:=Pr (l:=an A i) hs (Lw (A:=A) (s:=s) (i:=i));have h1:=pS (A % B ^ i*2 ^ s) i (an (A % B ^ i*2 ^ s) i+an A i*2 ^ s % B);rw [Nat.add_mul] at h1;have e1:cG (A % B ^ i*2 ^ s) i (an (A % B ^ i*2 ^ s) i+an A i*2 ^ s % B)=A % B ^ i*2 ^ s+an A i*2 ^ s % B*B ^ i:=by omega
 have J:an (cG (A % B ^ i*2 ^ s) i (an (A % B ^ i*2 ^ s) i+an A i*2 ^ s % B)) (i+1)=0:=by
  rw [F1 Jy,if_neg (by omega)]
  exact ug al (Nat.le_refl _)
 rw [Ey J,e1,mod_succ,Nat.add_mul,Nat.pow_succ];have h3:=Nat.mod_add_div (an A i*2 ^ s) B;have h4:an A i*B ^ i*2 ^ s=(an A i*2 ^ s % B+B*(an A i*2 ^ s / B))*B ^ i:=by rw [h3,Nat.mul_right_comm]
 rw [h4,Nat.add_mul,Nat.add_assoc]
 congr 1
 rw [Nat.mul_comm (B ^ i) B,← Nat.mul_assoc,Nat.mul_comm B (an A i*2 ^ s / B)]
theorem Se {A s i:Nat} (hs:s≤31):an (A / 2 ^ s) i=(an A i+an A (i+1)*B) / 2 ^ s % B:=by
 obtain ⟨w,hw⟩:∃ w,w=an A i+an A (i+1)*B:=⟨_,rfl⟩;have e:A / B ^ i=w+(B*B)*(A / B ^ (i+1+1)):=by
  rw [pZ A i,pZ A (i+1),Nat.mul_add,Nat.mul_comm B (an A (i+1)),Nat.mul_assoc,hw,← Nat.add_assoc]
 rw [← hw];show A / 2 ^ s / B ^ i % B=_
 rw [Nat.div_div_eq_div_mul,Nat.mul_comm (2 ^ s),← Nat.div_div_eq_div_mul,e];have hB:B=2 ^ s*2 ^ (32 - s):=by rw [← Nat.pow_add,show s+(32 - s)=32 by omega]
 have:B*B*(A / B ^ (i+1+1))=2 ^ s*(B*(2 ^ (32 - s)*(A / B ^ (i+1+1)))):=by
  conv=>lhs; rw [Nat.mul_assoc]; lhs; rw [hB]
  rw [Nat.mul_assoc,Nat.mul_left_comm (2 ^ (32 - s)) B]
 rw [this,Nat.add_mul_div_left _ _ (Nat.pow_pos (by decide)),Nat.add_mul_mod_self_left]
theorem VW {x y:Nat} (hx:x < 4294967296) (hy:y < 4294967296):IntKind.u64.wrap ((BitVec.ofInt IntKind.u64.bits (y:Int) ||| BitVec.ofInt IntKind.u64.bits ((x:Int)*4294967296)).toNat:Int)=((y+x*B:Nat):Int):=by
 rw [BitVec.or_comm,dz x y hx hy];show _=(((y+x*4294967296:Nat)):Int)
 omega
theorem UJ {W D P q:Nat} (hD:0 < D) (hP:0 < P) (h:W / P < q*(D / P)):W / D < q:=by
 refine (Nat.div_lt_iff_lt_mul hD).2 ?_;have h1:W < (W / P+1)*P:=by
  rw [Nat.mul_comm]; exact Nat.lt_mul_div_succ W hP
 have J:(W / P+1)*P≤q*(D / P)*P:=Nat.mul_le_mul_right _ h;have h3:q*(D / P)*P≤q*D:=by
  rw [Nat.mul_assoc]; exact Nat.mul_le_mul_left _ (Nat.div_mul_le_self _ _)
 omega
theorem Tn {W D P q K:Nat} (hP:0 < P) (h:q*(D / P)≤W / P) (hq:q≤K) (hK:K*P≤D):q≤W / D+1:=by
 rcases Nat.eq_zero_or_pos q with h0 | h0
 ·rw [h0]; exact Nat.zero_le _
 by_cases hD:D=0
 ·have hK0:K*P=0:=by omega
  rcases Nat.mul_eq_zero.1 hK0 with h | h <;> omega
 have h1:D < (D / P+1)*P:=by
  rw [Nat.mul_comm]; exact Nat.lt_mul_div_succ D hP
 have J:q*D < q*((D / P+1)*P):=Nat.mul_lt_mul_of_pos_left h1 h0;have e2:q*((D / P+1)*P)=q*(D / P)*P+q*P:=by rw [Nat.add_mul,Nat.mul_add,Nat.one_mul,Nat.mul_assoc]
 have h3:q*(D / P)*P≤W / P*P:=Nat.mul_le_mul_right _ h;have h4:W / P*P≤W:=Nat.div_mul_le_self _ _;have h5:q*P≤K*P:=Nat.mul_le_mul_right _ hq;have h6:q*D < W+D:=by omega
 have h7:(q - 1)*D≤W:=by
  rw [Nat.sub_mul,Nat.one_mul]; omega
 have:=(Nat.le_div_iff_mul_le (by omega:0 < D)).2 h7
 omega
theorem F3 (X j k:Nat):an (X / B ^ j) k=an X (j+k):=by
 unfold an;rw [Nat.div_div_eq_div_mul,← Nat.pow_add]
theorem yU {W k:Nat} (h:W < B ^ (k+1)):an W k=W / B ^ k:=by
 unfold an;refine Nat.mod_eq_of_lt ((Nat.div_lt_iff_lt_mul (eD k)).2 ?_);rw [Nat.mul_comm,← Nat.pow_succ]; exact h
theorem aeb {W k:Nat} (h:W < B ^ (k+2)):W / B ^ k=an W (k+1)*B+an W k:=by
 rw [pZ W k,← yU h,Nat.mul_comm,Nat.add_comm]
theorem M1 {q d1 d0 r w0 K top:Nat} (he:q*d1+r=top):(q*(d1*K+d0)≤top*K+w0↔q*d0≤r*K+w0):=by
 have e:top*K=q*(d1*K)+r*K:=by rw [← he,Nat.add_mul,Nat.mul_assoc]
 rw [Nat.mul_add,e];omega
theorem Lx {Z Z' v P l d t low c' c b b' x q X v' K:Nat} (he:Z+v=X+(b+c)*P) (hs:Z'+l*P=Z+d*P) (ht:t=c+q*x) (rz:t=low+K*c') (hd:l+b'*K=low+b+d) (hv:v'=v+q*x*P) :
  Z'+v'=X+(b'+c')*(P*K):=by
 have e1:t*P=c*P+q*x*P:=by rw [ht,Nat.add_mul]
 have e2:t*P=low*P+c'*(P*K):=by rw [rz,Nat.add_mul,Nat.mul_comm K,Nat.mul_assoc,Nat.mul_comm K P]
 have e3:l*P+b'*(P*K)=low*P+b*P+d*P:=by
  have:=congrArg (·*P) hd;simp only [Nat.add_mul] at this;rw [Nat.mul_assoc b' K P,Nat.mul_comm K P] at this;exact this
 rw [Nat.add_mul] at he ⊢;omega
theorem Bw {X Z D q c b b' i j t d:Nat} (he:Z+q*(D % B ^ i)*B ^ j=X+(b+c)*B ^ (j+i)) (ht:t=c+q*an D i) (hd:an Z (j+i)+b'*B=t % B+b+d) :
  cG Z (j+i) d+q*(D % B ^ (i+1))*B ^ j=X+(b'+t / B)*B ^ (j+(i+1)):=by
 have ep:B ^ (j+(i+1))=B ^ (j+i)*B:=rfl;rw [ep];refine Lx he (pS Z (j+i) d) ht (Nat.mod_add_div t B).symm hd ?_;rw [mod_succ,Nat.mul_add,Nat.add_mul,Nat.pow_add,← Nat.mul_assoc q (an D i),Nat.mul_comm (B ^ j) (B ^ i),Nat.mul_assoc (q*an D i)]
theorem Bx {X Z D q c b b' n j d:Nat} (hD:D < B ^ n) (hc:c < B) (he:Z+q*(D % B ^ n)*B ^ j=X+(b+c)*B ^ (j+n)) (hd:an Z (j+n)+b'*B=c+b+d) :
  cG Z (j+n) d+q*(D*B ^ j)=X+b'*B ^ (j+n+1):=by
 rw [Nat.mod_eq_of_lt hD] at he;have:=Lx (K:=B) (x:=0) (t:=c) (c':=0) (low:=c) (q:=q) (v':=q*D*B ^ j) he (pS Z (j+n) d) (by omega) (by omega) hd (by omega)
 rw [← Nat.mul_assoc,this,Nat.pow_succ]
 rfl
theorem To {Z Z' v P l c x t Y v' K:Nat} (he:Z+c*P=Y+v) (hs:Z'+l*P=Z+t % K*P) (ht:t=l+x+c) (hv:v'=v+x*P):Z'+t / K*(P*K)=Y+v':=by
 have h:=Nat.mod_add_div t K;have e1:t*P=t % K*P+t / K*(P*K):=by
  calc t*P=(t % K+K*(t / K))*P:=by rw [h]
   _=t % K*P+t / K*(P*K):=by rw [Nat.add_mul,Nat.mul_comm K,Nat.mul_assoc,Nat.mul_comm K P]
 have e2:t*P=l*P+x*P+c*P:=by rw [ht,Nat.add_mul,Nat.add_mul]
 omega
theorem By {Y Z D c i j t:Nat} (he:Z+c*B ^ (j+i)=Y+D % B ^ i*B ^ j) (ht:t=an Z (j+i)+an D i+c) :
  cG Z (j+i) (t % B)+t / B*B ^ (j+(i+1))=Y+D % B ^ (i+1)*B ^ j:=by
 have ep:B ^ (j+(i+1))=B ^ (j+i)*B:=rfl;rw [ep];refine To he (pS Z (j+i) (t % B)) ht ?_;rw [mod_succ,Nat.add_mul,Nat.pow_add,Nat.mul_comm (B ^ j),Nat.mul_assoc]
theorem Bf {X Z E q:Nat} (hE:0 < E) (h:Z+q*E=X) (hq:X / E≤q):q=X / E∧Z=X % E:=by
 have h1:q≤X / E:=(Nat.le_div_iff_mul_le hE).2 (by omega)
 have J:q=X / E:=by omega
 refine ⟨J,?_⟩;have:=Nat.mod_add_div X E;rw [J,Nat.mul_comm] at h;omega
theorem Bg {X Z E q M:Nat} (hE:0 < E) (h:Z+q*E=X+M) (hZ:Z < M) (hq:q≤X / E+1):q=X / E+1∧Z+E=X % E+M:=by
 have h1:X < q*E:=by omega
 have J:X / E < q:=(Nat.div_lt_iff_lt_mul hE).2 h1;have h3:q=X / E+1:=by omega
 refine ⟨h3,?_⟩;have:=Nat.mod_add_div X E;rw [h3,Nat.add_mul,Nat.one_mul,Nat.mul_comm] at h;omega
theorem Bz {V R c k:Nat} (hV:V < B ^ (k+1)) (hR:R < B ^ k) (hc:c≤1) (h:V+c*B ^ k=R+B ^ (k+1)):cG V k ((an V k+c) % B)=R:=by
 have rn:c=1:=by
  rcases Nat.eq_zero_or_pos c with h0 | h0
  ·subst h0; omega
  ·omega
 subst rn;have e:V=R+(B - 1)*B ^ k:=by
  rw [Nat.pow_succ,Nat.mul_comm (B ^ k) B] at h;rw [Nat.sub_mul];have:1*B ^ k≤B*B ^ k:=Nat.mul_le_mul_right _ (by decide)
  omega
 have e2:an V k=B - 1:=by
  rw [yU hV,e,Nat.add_mul_div_right _ _ (eD k),Nat.div_eq_of_lt hR,Nat.zero_add]
 have J:=pS V k ((an V k+1) % B);have e3:(B - 1+1) % B=0:=by decide
 rw [e2,e3] at J;rw [e2,e3];omega
theorem SG {X D j n n1 n2:Nat} (J:n2=nl D) (h0:n2=n+2) (h1:n1=n+1) (hd:2147483648≤an D n1) (hX:X < D*B ^ (j+1)) :
  X / B ^ j / B ^ n=(an X (j+n2)*B+an X (j+n1))*B+an X (j+n)∧D / B ^ n=an D n1*B+an D n∧X / B ^ j / D < B∧B*B ^ n≤D ∧
  X / B ^ j / D≤(an X (j+n2)*B+an X (j+n1)) / an D n1∧(an X (j+n2)*B+an X (j+n1)) / an D n1≤B+1∧X < B ^ (j+n2+1):=by
 subst h1;have hD:D < B ^ (n+2):=by have:=b8 D; rw [← J,h0] at this; exact this
 have DZ:=yU (W:=D) (k:=n+1) hD;have x6:0 < D:=by
  rcases Nat.eq_zero_or_pos D with h | h
  ·subst h; rw [FA] at hd; omega
  ·exact h
 have hW:X / B ^ j < D*B:=by
  refine (Nat.div_lt_iff_lt_mul (eD j)).2 ?_;rw [Nat.mul_assoc,Nat.mul_comm B,← Nat.pow_succ]; exact hX
 have hW3:X / B ^ j < B ^ (n+1+2):=by
  have e:B ^ (n+1+2)=B ^ (n+2)*B:=rfl;rw [e];exact Nat.lt_of_lt_of_le hW (Nat.mul_le_mul_right _ (Nat.le_of_lt hD))
 have ht:=aeb hW3;rw [F3,F3] at ht;have rz:X / B ^ j / B ^ (n+1)=an X (j+n2)*B+an X (j+(n+1)):=by rw [h0]; exact ht
 obtain ⟨top,vl⟩:∃ top,top=an X (j+n2)*B+an X (j+(n+1)):=⟨_,rfl⟩;rw [← vl] at rz ⊢;have hw:=pZ (X / B ^ j) n;rw [rz,F3] at hw;have dc:=pZ D n;rw [← DZ] at dc;obtain ⟨W,hWd⟩:∃ W,W=X / B ^ j:=⟨_,rfl⟩;obtain ⟨d1,gp⟩:∃ d1,d1=an D (n+1):=⟨_,rfl⟩;rw [← hWd] at hw rz hW ⊢;rw [← gp] at dc hd DZ ⊢;have Ai:d1*B ^ (n+1)≤D:=by rw [DZ]; exact Nat.div_mul_le_self _ _
 have c4:D < (d1+1)*B ^ (n+1):=by rw [DZ,Nat.mul_comm]; exact Nat.lt_mul_div_succ _ (eD _)
 refine ⟨?_,?_,?_,?_,?_,?_,?_⟩
 ·rw [hw,Nat.mul_comm B top,Nat.add_comm]
 ·rw [dc,Nat.mul_comm B d1,Nat.add_comm]
 ·exact (Nat.div_lt_iff_lt_mul x6).2 (by rw [Nat.mul_comm]; exact hW)
 ·have e:B*B ^ n=1*B ^ (n+1):=by rw [Nat.pow_succ,Nat.mul_comm,Nat.one_mul]
  rw [e];exact Nat.le_trans (Nat.mul_le_mul_right _ (by omega)) Ai
 ·refine (Nat.le_div_iff_mul_le (by omega)).2 ?_
  rw [← rz];refine (Nat.le_div_iff_mul_le (eD _)).2 ?_;rw [Nat.mul_assoc];exact Nat.le_trans (Nat.mul_le_mul_left _ Ai) (Nat.div_mul_le_self _ _)
 ·have h5:top < (d1+1)*B:=by
   rw [← rz];refine (Nat.div_lt_iff_lt_mul (eD _)).2 ?_;have:D*B≤(d1+1)*B ^ (n+1)*B:=Nat.mul_le_mul_right _ (Nat.le_of_lt c4);rw [Nat.mul_right_comm] at this;exact Nat.lt_of_lt_of_le hW this
  have h6:top / d1 < B+2:=by
   refine (Nat.div_lt_iff_lt_mul (by omega)).2 ?_
   rw [Nat.add_mul,Nat.mul_comm B d1];rw [Nat.add_mul] at h5;have:B=4294967296:=rfl;omega
  omega
 ·have e:B ^ (j+n2+1)=B ^ (n+2)*B ^ (j+1):=by rw [← Nat.pow_add]; congr 1; omega
  rw [e];exact Nat.lt_of_lt_of_le hX (Nat.mul_le_mul_right _ (Nat.le_of_lt hD))
structure Z6 (X D j n n2 top d1 d0 w0 Q q0:Nat):Prop where
 fW:X / B ^ j / B ^ n=top*B+w0
 fD:D / B ^ n=d1*B+d0
 fQ:Q=X / B ^ j / D
 fB:Q < 4294967296
 fP:B*B ^ n≤D
 fq:Q≤q0
 Re:q0≤4294967297
 fX:X < B ^ (j+n2+1)
 AA:0 < D
theorem Z7 {X D j n n1 n2 top d1 d0 w0 Q q0:Nat} (J:n2=nl D) (h0:n2=n+2) (h1:n1=n+1) (hd:2147483648≤an D n1) (hX:X < D*B ^ (j+1))
  (ht:top=an X (j+n2)*4294967296+an X (j+n1)) (gp:d1=an D n1) (fJ:d0=an D n) (hw:w0=an X (j+n)) (hQ:Q=X / B ^ j / D) (vM:q0=top / d1):Z6 X D j n n2 top d1 d0 w0 Q q0:=by
 have x6:0 < D:=by
  rcases Nat.eq_zero_or_pos D with h | h
  ·rw [h,FA] at hd; omega
  ·exact h
 subst ht gp fJ hw hQ vM;obtain ⟨a,b,c,d,e,f,g⟩:=SG J h0 h1 hd hX;exact ⟨a,b,rfl,c,d,e,f,g,x6⟩
theorem VX {W D P d1 d0 q r w0 top:Nat} (hD:0 < D) (hP:0 < P) (hW:W / P=top*B+w0) (Jz:D / P=d1*B+d0) (he:q*d1+r=top) (h:r*B+w0 < q*d0):W / D < q:=by
 refine UJ hD hP ?_;rw [hW,Jz];exact Nat.lt_of_not_le fun hle=>Nat.not_le_of_lt h ((M1 he).1 hle)
theorem GF {W D P d1 d0 q r w0 top:Nat} (hP:0 < P) (hW:W / P=top*B+w0) (Jz:D / P=d1*B+d0) (he:q*d1+r=top) (hq:q < B) (hK:B*P≤D) (fJ:d0 < B) (h:B≤r∨q*d0≤r*B+w0):q≤W / D+1:=by
 refine Tn hP ?_ (Nat.le_of_lt hq) hK;rw [hW,Jz];refine (M1 he).2 ?_;rcases h with h | h
 ·have h1:q*d0≤B*B:=Nat.mul_le_mul (Nat.le_of_lt hq) (Nat.le_of_lt fJ);have J:B*B≤r*B:=Nat.mul_le_mul_right _ h;omega
 ·exact h
theorem F4 (a b:Nat):Int.tdiv (a:Int) (b:Int)=((a / b:Nat):Int):=rfl
theorem M3 (a b:Nat):Int.tmod (a:Int) (b:Int)=((a % b:Nat):Int):=rfl
theorem acE {q x:Nat} (hq:q≤4294967297) (hx:x < 4294967296):IntKind.u64.wrap ((q:Int)*(x:Int))=((q*x:Nat):Int)∧q*x < 18446744073709551616:=by
 have h:=Nat.mul_le_mul hq (show x≤4294967295 by omega)
 have e:((q:Int)*(x:Int))=((q*x:Nat):Int):=by simp
 obtain ⟨p,hp⟩:∃ p,p=q*x:=⟨_,rfl⟩;rw [e,← hp];rw [← hp] at h;exact ⟨bN (by omega) (by omega),by omega⟩
theorem BQ {c q x t:Nat} (hc:c < B) (hq:q < B) (hx:x < B) (ht:t=c+q*x):IntKind.u64.wrap ((c:Int)+IntKind.u64.wrap ((q:Int)*(x:Int)))=(t:Int)∧t / B < B:=by
 have hB:B=4294967296:=rfl;have h:=Nat.mul_le_mul (show q≤4294967295 by omega) (show x≤4294967295 by omega)
 have e:((q:Int)*(x:Int))=((q*x:Nat):Int):=by simp
 obtain ⟨p,hp⟩:∃ p,p=q*x:=⟨_,rfl⟩;rw [e,← hp];rw [← hp] at h ht;constructor
 ·rw [bN (x:=(p:Int)) (by omega) (by omega),bN (by omega) (by omega),ht]; omega
 ·refine (Nat.div_lt_iff_lt_mul (by decide)).2 ?_
  rw [hB,ht]; omega
open Go
def one (A ca:Nat):Value:=.slice (some ⟨0,0,none⟩) (nl A) ca
abbrev I1:=Nat × Nat × Nat
def CI:aY:={ ι:=I1,args:=fun i=>[one i.1 i.2.1,.int .u32 i.2.2],ah:=fun i=>[dN i.1],pre:=fun i=>nl i.1≤137438953472∧0 < i.2.2∧i.2.2 < 4294967296,val:=fun i=>.tuple ⟨[kZ 1 (i.1 / i.2.2),.int .u32 (i.1 % i.2.2:Nat)]⟩,new:=fun i=>some (.flat true (nl i.1) 1 (bu (i.1 / i.2.2))) }
def CJ:aY:={ ι:=I1,args:=fun i=>[one i.1 i.2.1,.int .i64 i.2.2],ah:=fun i=>[dN i.1],pre:=fun i=>nl i.1≤137438953472∧i.2.2≤31,val:=fun i=>.slice (some ⟨1,0,none⟩) (nl i.1+1) (nl i.1+1),new:=fun i=>some (.flat true (nl i.1+1) 1 (bu (i.1*2 ^ i.2.2))) }
def BR:aY:={ ι:=I1,args:=fun i=>[one i.1 i.2.1,.int .i64 i.2.2],ah:=fun i=>[dN i.1],pre:=fun i=>nl i.1≤137438953472∧i.2.2≤31,val:=fun i=>kZ 1 (i.1 / 2 ^ i.2.2),new:=fun i=>some (.flat true (nl i.1) 1 (bu (i.1 / 2 ^ i.2.2))) }
structure DI where
 (X m cx D cd j:Nat)
def xi:zD:={ ι:=DI,args:=fun i=>[.slice (some ⟨0,0,none⟩) i.m i.cx,.slice (some ⟨1,0,none⟩) (nl i.D) i.cd,.int .i64 i.j],ah:=fun i=>[.flat true i.m 1 (bu i.X),dN i.D],pre:=fun i=>i.m≤137438953473∧2≤nl i.D∧2147483648≤an i.D (nl i.D - 1)∧i.j+nl i.D < i.m∧i.X < i.D*B ^ (i.j+1),val:=fun i=>.int .u32 (i.X / (i.D*B ^ i.j):Nat),post:=fun i=>[.flat true i.m 1 (bu (i.X % (i.D*B ^ i.j))),dN i.D],new:=fun _=>[] }
theorem rO {i:DI} {N q:Nat} {H:ay} (h1:N=i.X % (i.D*B ^ i.j)) (J:q=i.X / (i.D*B ^ i.j)) (hH:H[0]?=some (some (.flat true i.m 1 (bu N)))):zU xi i (.int .u32 (q:Nat)) H:=by
 refine ⟨[],List.nodup_nil,by simp,rfl,fun j b q' hb hq ho=>?_,by simp,_,rfl,by subst J; exact .refl _⟩
 match j with
 | 0 =>
  simp [xi] at hb hq;subst hq;exact ⟨_,hH,rfl,by rw [h1]; exact ⟨fun _=>⟨rfl,rfl⟩,rfl,Nat.le_refl _,fun _ _=>rfl,fun r hr v hv=>dE (l:=bu _ r) rfl v hv⟩⟩
 | 1 =>
  simp [xi] at hb;subst hb;cases ho
 | j+2=>simp [xi] at hb
def gQ:zD:={ ι:=I2,args:=fun i=>two i.1 i.2.1 i.2.2.1 i.2.2.2,ah:=fun i=>kz i.1 i.2.2.1,pre:=fun i=>y9 i∧i.2.2.1≠0,val:=fun i=>if i.1 < i.2.2.1 then .tuple ⟨[.slice none 0 0,one i.1 i.2.1]⟩ else .tuple ⟨[kZ 2 (i.1 / i.2.2.1),kZ 3 (i.1 % i.2.2.1)]⟩,post:=fun i=>kz i.1 i.2.2.1,new:=fun i=>if i.1 < i.2.2.1 then [] else [dN (i.1 / i.2.2.1),dN (i.1 % i.2.2.1)] }
open Go
theorem Tp {D n s:Nat} (hn:nl D=n+1) (hs:s=32 - fe (an D n)) :
  s≤31∧an D n≠0∧nl (D*2 ^ s)=n+1∧2147483648≤an (D*2 ^ s) n∧2147483648*B ^ n≤D*2 ^ s:=by
 have x6:D≠0:=by intro h; rw [h,rY] at hn; omega
 have vl:an D n≠0:=by have:=VL x6; rw [hn] at this; exact this
 obtain ⟨x,hx⟩:∃ x,x=an D n:=⟨_,rfl⟩;rw [← hx] at hs vl ⊢;have iH:x < 4294967296:=by rw [hx]; exact cI D n
 have hb:=M0 iH;have Ai:1≤fe x:=by
  rcases Nat.eq_zero_or_pos (fe x) with h | h
  ·have:=GD x; rw [h] at this; omega
  ·exact h
 have al:=b8 D;rw [hn] at al;have Rf:x=D / B ^ n:=by rw [hx]; exact yU al
 have h1:=Kh vl;have J:=GD x;have e:2 ^ (fe x)*2 ^ s=4294967296:=by rw [← Nat.pow_add,show fe x+s=32 by omega]
 have e2:2 ^ (fe x - 1)*2 ^ s=2147483648:=by rw [← Nat.pow_add,show fe x - 1+s=31 by omega]
 have ij:2147483648*B ^ n≤D*2 ^ s:=by
  rw [← e2,Nat.mul_right_comm];refine Nat.mul_le_mul_right _ ?_;refine Nat.le_trans (Nat.mul_le_mul_right _ h1) ?_;rw [Rf]; exact Nat.div_mul_le_self _ _
 have jA:D*2 ^ s < B ^ (n+1):=by
  have h3:D < (x+1)*B ^ n:=by rw [Rf,Nat.mul_comm]; exact Nat.lt_mul_div_succ _ (eD n)
  have h4:D*2 ^ s < (x+1)*B ^ n*2 ^ s:=Nat.mul_lt_mul_of_pos_right h3 (Nat.pow_pos (by decide))
  have h5:(x+1)*B ^ n*2 ^ s≤2 ^ fe x*B ^ n*2 ^ s:=Nat.mul_le_mul_right _ (Nat.mul_le_mul_right _ J);rw [Nat.mul_right_comm (2 ^ fe x),e] at h5;have e3:B ^ (n+1)=4294967296*B ^ n:=by rw [Nat.pow_succ,Nat.mul_comm]
  rw [e3];exact Nat.lt_of_lt_of_le h4 h5
 have cL:nl (D*2 ^ s)=n+1:=by
  refine OH jA (.inr ?_);rw [Nat.add_sub_cancel];refine Nat.le_trans ?_ ij;exact Nat.le_mul_of_pos_left _ (by decide)
 refine ⟨by omega,vl,cL,?_,ij⟩
 rw [yU jA];exact (Nat.le_div_iff_mul_le (eD n)).2 ij
theorem SH {A s:Nat} (hs:s≤31):A*2 ^ s < B ^ (nl A)*2147483648:=by
 have h:=wM hs;exact Nat.mul_lt_mul_of_lt_of_le (b8 A) h (by decide)
theorem UK {A E n s k:Nat} (hs:s≤31) (ij:2147483648*B ^ n≤E) (hk:k=nl A - n) (hle:n≤nl A):A*2 ^ s < E*B ^ k:=by
 refine Nat.lt_of_lt_of_le (SH hs) ?_;have e:B ^ nl A*2147483648=2147483648*B ^ n*B ^ k:=by
  rw [Nat.mul_assoc,← Nat.pow_add,show n+k=nl A by omega,Nat.mul_comm]
 rw [e];exact Nat.mul_le_mul_right _ ij
theorem UL {V E Q U i:Nat} (hE:0 < E) (h:Q*E+U=V) (hU:U < E*B ^ (i+1)) (hQ:Q % B ^ (i+1)=0) :
  U / (E*B ^ i) < B∧cG Q i (U / (E*B ^ i))*E+U % (E*B ^ i)=V∧U % (E*B ^ i) < E*B ^ i∧cG Q i (U / (E*B ^ i)) % B ^ i=0:=by
 have hP:0 < E*B ^ i:=Nat.mul_pos hE (eD i);have hd:U / (E*B ^ i) < B:=by
  refine (Nat.div_lt_iff_lt_mul hP).2 ?_;rw [Nat.mul_comm,Nat.mul_assoc,← Nat.pow_succ]; exact hU
 obtain ⟨K,hK⟩:∃ K,Q=K*B ^ (i+1):=⟨Q / B ^ (i+1),by rw [Nat.mul_comm]; have:=Nat.mod_add_div Q (B ^ (i+1)); rw [hQ,Nat.zero_add] at this; exact this.symm⟩
 have hl:an Q i=0:=by rw [hK]; exact KB K i
 rw [Ey hl];refine ⟨hd,?_,Nat.mod_lt _ hP,?_⟩
 ·rw [Nat.add_mul,← h,Nat.add_assoc]
  congr 1
  rw [Nat.mul_assoc,Nat.mul_comm (B ^ i) E,Nat.mul_comm];exact Nat.div_add_mod U (E*B ^ i)
 ·rw [hK,Nat.pow_succ,Nat.mul_comm (B ^ i) B,← Nat.mul_assoc,← Nat.add_mul];exact Nat.mul_mod_left _ _
theorem VY {A D s Q U:Nat} (hD:0 < D) (h:Q*(D*2 ^ s)+U=A*2 ^ s) (hU:U < D*2 ^ s):Q=A / D∧U=A % D*2 ^ s∧U / 2 ^ s=A % D:=by
 have hs:0 < 2 ^ s:=Nat.pow_pos (by decide)
 have hE:0 < D*2 ^ s:=Nat.mul_pos hD hs;have h1:A*2 ^ s / (D*2 ^ s)=Q:=by
  rw [← h,Nat.mul_comm Q];rw [Nat.mul_add_div hE,Nat.div_eq_of_lt hU,Nat.add_zero]
 have J:A*2 ^ s % (D*2 ^ s)=U:=by
  rw [← h,Nat.mul_comm Q,Nat.mul_add_mod,Nat.mod_eq_of_lt hU]
 rw [Nat.mul_div_mul_right _ _ hs] at h1;rw [Nat.mul_mod_mul_right] at J;refine ⟨h1.symm,J.symm,?_⟩;rw [← J,Nat.mul_div_cancel _ hs]
theorem Tq {N:Nat} (h:N < 4294967296):an N 0=N:=by
 unfold an;rw [Nat.pow_zero,Nat.div_one]; exact Nat.mod_eq_of_lt h
theorem Z8 {D:Nat} (h:nl D=1):an D 0=D∧D < 4294967296∧0 < D:=by
 have h1:=b8 D;rw [h,Nat.pow_one] at h1;have h0:D≠0:=by intro e; rw [e,rY] at h; omega
 refine ⟨?_,h1,by omega⟩
 unfold an;rw [Nat.pow_zero,Nat.div_one]; exact Nat.mod_eq_of_lt h1
theorem UM {A ca D cd:Nat} {H:ay} (h:A < D):zU gQ (A,ca,D,cd) (.tuple ⟨[.slice none 0 0,.slice (some ⟨0,0,none⟩) (nl A) ca]⟩) H:=by
 have e1:gQ.val (A,ca,D,cd)=.tuple ⟨[.slice none 0 0,one A ca]⟩:=if_pos h;have e2:gQ.new (A,ca,D,cd)=[]:=if_pos h;refine ⟨[],List.nodup_nil,by simp,by rw [e2]; rfl,fun j b q' hb hq ho=>?_,fun j p b hp=>by simp at hp,_,by rw [e1]; rfl,.refl _⟩
 match j with
 | 0=>simp [gQ,kz] at hb; subst hb; cases ho
 | 1=>simp [gQ,kz] at hb; subst hb; cases ho
 | j+2=>simp [gQ,kz] at hb
theorem Mm {A ca D cd q r c1 c2:Nat} {H:ay} {b1 b2:ai} (h:D≤A) (hq:2≤q) (hr:2≤r) (JA:q≠r)
  (h1:H[q]?=some (some b1)) (J:H[r]?=some (some b2)) (o1:b1.own=true) (o2:b2.own=true) (l1:aD (dN (A / D)) b1) (l2:aD (dN (A % D)) b2) :
  zU gQ (A,ca,D,cd) (.tuple ⟨[.slice (some ⟨q,0,none⟩) (nl (A / D)) c1,.slice (some ⟨r,0,none⟩) (nl (A % D)) c2]⟩) H:=by
 have hn:¬ A < D:=by omega
 have e1:gQ.val (A,ca,D,cd)=.tuple ⟨[kZ 2 (A / D),kZ 3 (A % D)]⟩:=if_neg hn;have e2:gQ.new (A,ca,D,cd)=[dN (A / D),dN (A % D)]:=if_neg hn;refine ⟨[q,r],by simp [JA],fun p hp=>?_,by rw [e2]; rfl,fun j b q' hb hq ho=>?_,fun j p b hp hb=>?_,_,by rw [e1]; rfl,.two (.cap _ _ _ rfl) (.cap _ _ _ rfl)⟩
 ·simp at hp;show 2≤p
  omega
 ·match j with
  | 0=>simp [gQ,kz] at hb; subst hb; cases ho
  | 1=>simp [gQ,kz] at hb; subst hb; cases ho
  | j+2=>simp [gQ,kz] at hb
 ·rw [e2] at hb
  match j with
  | 0=>simp at hp hb; subst hp hb; exact ⟨b1,h1,o1,l1⟩
  | 1=>simp at hp hb; subst hp hb; exact ⟨b2,J,o2,l2⟩
  | j+2=>simp at hb
theorem Mn {x n:Nat} (hx:x < 4294967296) (hn:n≤1):aD (.flat false n 1 (bu x)) (.aS true 1 [[.int .u32 (x:Nat)]]):=by
 refine ⟨(fun h=>by cases h),rfl,hn,fun r hr=>?_,fun r hr v hv=>dE (l:=bu x r) rfl v hv⟩
 have h0:r=0:=by
  have:r < n:=hr;omega
 subst h0;show [Value.int .u32 (an x 0:Nat)]=[Value.int .u32 (x:Nat)]
 rw [Tq hx]
open Go
def a9 (b:Bool) (N:Nat):Int:=if b then -(N:Int) else N
def lR (b:Bool) (N:Nat):Value:=.agg ⟨[.bool (b && N != 0),.string (nb N)]⟩
def aH (z:Int):Value:=.agg ⟨[.bool (decide (z < 0)),.string (nb z.natAbs)]⟩
theorem jr (b:Bool) (N:Nat):lR b N=aH (a9 b N):=by
 unfold lR aH a9;cases b
 ·simp
 ·by_cases h:N=0
  ·subst h; simp
  ·have e:(N != 0)=true:=by simp [h]
   simp [e];omega
theorem VZ (b c:Bool) (M N:Nat):a9 (b != c) (M*N)=a9 b M*a9 c N:=by
 cases b <;> cases c <;> simp [a9,Int.neg_mul,Int.mul_neg]
theorem F5 (b:Bool) (N:Nat):a9 (!b) N=-a9 b N:=by cases b <;> simp [a9]
theorem Mo (b:Bool) (M N:Nat):a9 b (M+N)=a9 b M+a9 b N:=by cases b <;> simp [a9] <;> omega
theorem BA {b c:Bool} (h:b≠c) {M N:Nat} (hle:N≤M):a9 b (M - N)=a9 b M+a9 c N:=by
 cases b <;> cases c <;> simp [a9] at h ⊢ <;> omega
theorem uh (b:Bool) (N:Nat):(a9 b N).natAbs=N:=by cases b <;> simp [a9]
theorem FD {b:Bool} {N:Nat}:a9 b N=0↔N=0:=by cases b <;> simp [a9]
def dO (x y:Int):Int:=if x < y then -1 else if y < x then 1 else 0
theorem BS (M N:Nat):dO (M:Int) (N:Int)=cM M N:=by
 unfold dO cM
 split <;> split <;> (try split) <;> (try split) <;> omega
theorem M4 (M N:Nat):dO (-(M:Int)) (-(N:Int))=cM N M:=by
 unfold dO cM
 split <;> split <;> (try split) <;> (try split) <;> omega
theorem UN (A D:Nat):nl (A*D)≤nl A+nl D:=jQ (by
 rw [Nat.pow_add];exact Nat.mul_lt_mul_of_lt_of_le (b8 A) (Nat.le_of_lt (b8 D)) (eD _))
theorem Mp (A D:Nat):nl (A+D)≤max (nl A) (nl D)+1:=jQ (by
 have h1:=Nat.lt_of_lt_of_le (b8 A) (Nat.pow_le_pow_right (show 0 < B by decide) (Nat.le_max_left (nl A) (nl D)))
 have J:=Nat.lt_of_lt_of_le (b8 D) (Nat.pow_le_pow_right (show 0 < B by decide) (Nat.le_max_right (nl A) (nl D)))
 have e:B ^ (max (nl A) (nl D)+1)=B ^ (max (nl A) (nl D))*4294967296:=rfl;rw [e];generalize B ^ (max (nl A) (nl D))=K at *;omega)
theorem OJ {N:Nat} (h:N < 18446744073709551616):N < 4294967296 ^ 2:=Nat.lt_of_lt_of_le h (by decide)
theorem M5 {N:Nat} (h:N < 18446744073709551616):an N 0=N % 4294967296∧an N 1=N / 4294967296:=by
 unfold an;rw [Nat.pow_zero,Nat.div_one,Nat.pow_one];exact ⟨rfl,Nat.mod_eq_of_lt (show N / 4294967296 < 4294967296 by omega)⟩
theorem NT {N x:Nat} (h:N < 36028797018963968) (hx:x < 256):IntKind.i64.wrap ((BitVec.ofInt IntKind.i64.bits (IntKind.i64.wrap ((N:Int)*256)) ||| BitVec.ofInt IntKind.i64.bits (IntKind.i64.wrap (x:Int))).toNat:Int)=((N*256+x:Nat):Int):=by
 rw [ax (x:=(N:Int)*256) (by omega) (by omega),ax (x:=(x:Int)) (by omega) (by omega),dL N x h hx]
 omega
theorem M6 {N:Nat} (h:N < 18446744073709551616):aD (.flat false 2 1 (bu N)) (.aS true 1 [[.int .u32 (IntKind.u32.wrap (N:Int))],[.int .u32 (IntKind.u32.wrap ((N:Int).fdiv (2 ^ min (Int.toNat 32) IntKind.u64.bits)))]]):=by
 obtain ⟨h1,J⟩:=M5 h;refine ⟨(fun h=>by cases h),rfl,Nat.le_refl _,fun r hr=>?_,fun r hr v hv=>dE (l:=bu N r) rfl v hv⟩
 have hr:r < 2:=hr
 match r,hr with
 | 0,_ =>
  show [Value.int .u32 (an N 0:Nat)]=[Value.int .u32 (IntKind.u32.wrap (N:Int))]
  rw [h1,wJ]; rfl
 | 1,_ =>
  show [Value.int .u32 (an N 1:Nat)]=[Value.int .u32 (IntKind.u32.wrap ((N:Int).fdiv (2 ^ min (Int.toNat 32) IntKind.u64.bits)))]
  rw [J,ck,dh (by omega) (by omega)]; rfl
theorem ux {x y:Int} (h:x < y):dO x y=-1:=if_pos h
theorem uy {x y:Int} (h:y < x):dO x y=1:=by
 unfold dO;rw [if_neg (by omega),if_pos h]
theorem Xm {N:Nat} (h:((nl N:Nat):Int) > 0):0 < N:=by
 rcases Nat.eq_zero_or_pos N with h0 | h0
 ·rw [h0,rY] at h; exact absurd h (by decide)
 ·exact h0
theorem Tr {N:Nat} (h:¬ ((nl N:Nat):Int) > 0):N=0:=Ls (by omega)
theorem wU {N:Nat} (h:0 < N):decide (((nl N:Nat):Int) > 0)=true:=decide_eq_true (by have:=y6 (show N≠0 by omega); omega)
theorem wN {N:Nat} (h:N=0):decide (((nl N:Nat):Int) > 0)=false:=by rw [h,rY]; rfl
theorem Dr {i:Nat} (h:i≤6):C ^ i≤281474976710656:=Nat.le_trans (Nat.pow_le_pow_right (by decide) h) (by decide)
theorem n9 {i:Nat} (h:i≤7):C ^ i≤72057594037927936:=Nat.le_trans (Nat.pow_le_pow_right (by decide) h) (by decide)
theorem wC:aH 0=.agg ⟨[.bool false,.string ⟨#[]⟩]⟩:=by unfold aH; rw [Int.natAbs_zero,p8]; rfl
theorem A5 {x y q r:Int} (hy:0 < y) (h:r+y*q=x) (h0:0≤r) (h1:r < y):x.fdiv y=q∧x.fmod y=r:=by
 have:=(Int.ediv_emod_unique hy).2 ⟨h,h0,h1⟩;rw [Int.fdiv_eq_ediv_of_nonneg _ (Int.le_of_lt hy),Int.fmod_eq_emod_of_nonneg _ (Int.le_of_lt hy)];exact this
theorem Ew {x y q r:Int} (hy:y < 0) (h:r+y*q=x) (h0:r≤0) (h1:y < r):x.fdiv y=q∧x.fmod y=r:=by
 have J:=A5 (x:=-x) (y:=-y) (q:=q) (r:=-r) (by omega) (by rw [← h,Int.neg_mul]; omega) (by omega) (by omega)
 rw [Int.neg_fdiv_neg] at J;refine ⟨J.1,?_⟩;rw [Int.fmod_def,J.1,← h];omega
theorem wD {b c:Bool} {A D:Nat} (hD:0 < D) (h:A % D=0∨b=c):(a9 b A).fdiv (a9 c D)=a9 (b != c) (A / D)∧(a9 b A).fmod (a9 c D)=a9 b (A % D):=by
 have hm:=Nat.mod_lt A hD;have he:((A % D:Nat):Int)+(D:Int)*((A / D:Nat):Int)=(A:Int):=by
  have:=Nat.mod_add_div A D;have J:=congrArg (fun n:Nat=>(n:Int)) this
  simpa using J
 cases b <;> cases c
 ·exact A5 (by simp [a9]; omega) (by simpa [a9] using he) (by simp [a9]; omega) (by simp only [a9,Bool.false_eq_true,if_false]; omega)
 ·have h:A % D=0:=h.resolve_right (by simp)
  refine Ew (by simp [a9]; omega) ?_ (by simp [a9,h]) (by simp [a9,h]; omega)
  rw [h] at he ⊢;simp only [a9,Bool.false_eq_true,if_false,if_true,bne,Bool.not_false,show ((false == true)=false) from rfl,Int.neg_mul_neg]
  exact he
 ·have h:A % D=0:=h.resolve_right (by simp)
  refine A5 (by simp [a9]; omega) ?_ (by simp [a9,h]) (by simp [a9,h]; omega)
  rw [h] at he ⊢;simp only [a9,Bool.false_eq_true,if_false,if_true,bne,Bool.not_false,show ((true == false)=false) from rfl,Int.mul_neg]
  omega
 ·refine Ew (by simp [a9]; omega) ?_ (by simp only [a9,if_true]; omega) (by simp only [a9,if_true]; omega)
  simp only [a9,if_true,bne,Bool.not_true,show ((true == true)=true) from rfl,Bool.false_eq_true,if_false,Int.neg_mul]
  omega
theorem Fa {b c:Bool} {A D:Nat} (hD:0 < D) (h:A % D≠0) (pE:b≠c):(a9 b A).fdiv (a9 c D)=a9 (b != c) (A / D) - 1∧(a9 b A).fmod (a9 c D)=a9 b (A % D)+a9 c D:=by
 have hm:=Nat.mod_lt A hD;have he:((A % D:Nat):Int)+(D:Int)*((A / D:Nat):Int)=(A:Int):=by
  have:=Nat.mod_add_div A D;have J:=congrArg (fun n:Nat=>(n:Int)) this
  simpa using J
 cases b <;> cases c
 ·exact absurd rfl pE
 ·refine Ew (by simp [a9]; omega) ?_ (by simp only [a9,Bool.false_eq_true,if_false,if_true]; omega) (by simp only [a9,Bool.false_eq_true,if_false,if_true]; omega)
  simp only [a9,Bool.false_eq_true,if_false,if_true,bne,Bool.not_false,show ((false == true)=false) from rfl,Int.mul_sub,Int.neg_mul_neg,Int.mul_one]
  omega
 ·refine A5 (by simp [a9]; omega) ?_ (by simp only [a9,Bool.false_eq_true,if_false,if_true]; omega) (by simp only [a9,Bool.false_eq_true,if_false,if_true]; omega)
  simp only [a9,Bool.false_eq_true,if_false,if_true,bne,Bool.not_false,show ((true == false)=false) from rfl,Int.mul_sub,Int.mul_neg,Int.mul_one]
  omega
 ·exact absurd rfl pE
theorem wO {N:Nat} (h:N=0):(!(nb N).toList == (⟨#[]⟩:ByteArray).toList)=false:=by rw [qz,h,p8]; simp
theorem wV {N:Nat} (h:N≠0):(!(nb N).toList == (⟨#[]⟩:ByteArray).toList)=true:=by
 rw [qz];have:nb N≠⟨#[]⟩:=fun e=>h (Kz.1 e)
 simp [this]
abbrev IV:=Bool × ByteArray
def IV.v (i:IV):Value:=.agg ⟨[.bool i.1,.string i.2]⟩
def IV.z (i:IV):Int:=a9 i.1 (ab i.2)
def IV.ok (i:IV):Prop:=i.2.size≤549755813888
theorem IV.nl {i:IV} (h:i.ok):nl (ab i.2)≤137438953472:=by
 rw [OI];have:=jn i.2;have h:i.2.size≤549755813888:=h;omega
theorem CK (b:Bool) (N:Nat):IV.z (b && N != 0,nb N)=a9 b N:=by
 show a9 _ (ab (nb N))=_
 rw [iy];cases b
 ·rfl
 ·by_cases h:N=0
  ·subst h; rfl
  ·have e:(N != 0)=true:=by simp [h]
   rw [e]; rfl
theorem Bq {N:Nat} {s:ByteArray} (h:N≤ab s):(nb N).size≤s.size:=by
 rw [gP];exact Nat.le_trans (iZ h) (jn s)
theorem Hc:(nb 1).size≤1:=by rw [gP]; exact gX (by decide)
theorem OK (z:Int):IV.z (decide (z < 0),nb z.natAbs)=z:=by
 show a9 _ (ab (nb z.natAbs))=z
 rw [iy];unfold a9;by_cases h:z < 0
 ·simp [h]; omega
 ·simp [h]; omega
theorem GG {i:IV} (h:i.2.size≤7):-72057594037927936 < i.z∧i.z < 72057594037927936:=by
 have h1:=Nat.lt_of_lt_of_le (gE i.2) (n9 h);unfold IV.z a9
 split <;> omega
def eZ:bF:={ ι:=Int,args:=fun n=>[.int .i64 n],pre:=fun n=>-9223372036854775808≤n∧n < 9223372036854775808,val:=fun n=>aH n }
def wW:bF:={ ι:=IV,args:=fun i=>[i.v],pre:=IV.ok,val:=fun i=>.tuple ⟨[.int .i64 (if i.2.size≤7 then i.z else 0),.bool (decide (i.2.size≤7))]⟩ }
def ib:bF:={ ι:=IV,args:=fun i=>[i.v],pre:=IV.ok,val:=fun i=>aH (-i.z) }
abbrev kK:=IV × IV
def kK.ok (i:kK):Prop:=i.1.ok∧i.2.ok
def jk:bF:={ ι:=kK,args:=fun i=>[i.1.v,i.2.v],pre:=kK.ok,val:=fun i=>aH (i.1.z+i.2.z) }
def mL:bF:={ ι:=kK,args:=fun i=>[i.1.v,i.2.v],pre:=kK.ok,val:=fun i=>aH (i.1.z - i.2.z) }
def fm:bF:={ ι:=kK,args:=fun i=>[i.1.v,i.2.v],pre:=kK.ok,val:=fun i=>aH (i.1.z*i.2.z) }
def lS:bF:={ ι:=kK,args:=fun i=>[i.1.v,i.2.v],pre:=kK.ok,val:=fun i=>.int .i64 (dO i.1.z i.2.z) }
def vm:bF:={ ι:=kK,args:=fun i=>[i.1.v,i.2.v],pre:=kK.ok,val:=fun i=>aH (Int.gcd i.1.z i.2.z:Nat) }
def iR:bF:={ ι:=kK,args:=fun i=>[i.1.v,i.2.v],pre:=kK.ok,val:=fun i=>.tuple ⟨[aH (i.1.z.fdiv i.2.z),aH (if i.2.z=0 then 0 else i.1.z.fmod i.2.z),.int .i64 (if i.2.z=0 then 10 else 0)]⟩ }
theorem yH {s:ByteArray} {i:Nat} (h:i < s.size):ab s / C ^ (s.size - (i+1))=ab s / C ^ (s.size - i)*256+b9 s i:=by
 rw [ua h,show s.size - 1 - i=s.size - (i+1) by omega]
 have e:C ^ (s.size - i)=C ^ (s.size - (i+1))*C:=by rw [← Nat.pow_succ]; congr 1; omega
 rw [e,← Nat.div_div_eq_div_mul,Nat.mul_comm];exact (Nat.div_add_mod _ C).symm
theorem CL (s:ByteArray) {i:Nat} (h:i≤s.size):ab s / C ^ (s.size - i) < C ^ i:=by
 refine (Nat.div_lt_iff_lt_mul (ia _)).2 ?_;rw [← Nat.pow_add,show i+(s.size - i)=s.size by omega]
 exact gE s
open Go
def jt:bF:={ ι:=IV,args:=fun i=>[i.v],pre:=IV.ok,val:=fun i=>aH i.z }
def kj:bF:={ ι:=ByteArray,args:=fun s=>[.string s],pre:=fun s=>s.size≤7,val:=fun s=>.int .i64 (ab s:Nat) }
def xj:bF:={ ι:=IV,args:=fun i=>[i.v],pre:=fun i=>i.2.size≤7,val:=fun i=>.int .i64 i.z }
def Iv:bF:={ ι:=Nat,args:=fun n=>[.int .i64 n],pre:=fun n=>n < 9223372036854775808,val:=fun n=>.string (nb n) }
def r4:bF:={ ι:=Nat × Nat,args:=fun i=>[.string (nb i.1),.string (nb i.2)],pre:=fun i=>aT i.1≤1099511627776∧aT i.2≤1099511627776,val:=fun i=>.int .i64 (cM i.1 i.2) }
theorem drop_zero {u:ByteArray} (h1:u.size≠0) (J:b9 u 0=0):ab (u.extract 1 u.size)=ab u∧(u.extract 1 u.size).size=u.size - 1:=by
 have h3:=ua (s:=u) (i:=0) (by omega)
 have h4:=gE u;refine ⟨?_,EC (by omega) (Nat.le_refl _)⟩
 rw [EG (by omega) (Nat.le_refl _),Nat.sub_self,Nat.pow_zero,Nat.div_one]
 refine Nat.mod_eq_of_lt ?_;rw [J,Nat.sub_zero] at h3;have h5:ab u / C ^ (u.size - 1) < C:=(Nat.div_lt_iff_lt_mul (ia _)).2 (by
  rw [Nat.mul_comm,← Nat.pow_succ,show (u.size - 1).succ=u.size by omega]; exact h4)
 rw [Nat.mod_eq_of_lt h5] at h3;rcases Nat.lt_or_ge (ab u) (C ^ (u.size - 1)) with h6 | h6
 ·exact h6
 ·have:=Nat.div_pos h6 (ia _);omega
theorem M7 {N x:Nat} (h:N < 36028797018963968) (hx:x < 256):IntKind.i64.wrap ((BitVec.ofInt IntKind.i64.bits (IntKind.i64.wrap ((N:Int)*2 ^ min (Int.toNat 8) IntKind.i64.bits)) ||| BitVec.ofInt IntKind.i64.bits (IntKind.i64.wrap (x:Int))).toNat:Int)=((N*256+x:Nat):Int):=NT h hx
theorem qA (t:Nat):IntKind.u8.wrap (t:Int)=((t % C:Nat):Int):=by rw [lz]; rfl
theorem EH {g:Nat→List Value} {i m X:Nat} (h:∀ r,r < m→g (i+r)=[.int .u8 ((X / C ^ (m - 1 - r) % C:Nat):Int)]):(⟨⟨bytesOf g i m⟩⟩:ByteArray)=be m X:=by
 have e:bytesOf g i m=bytesOf (fun r=>g (i+r)) 0 m:=by
  unfold bytesOf;simp only [Nat.zero_add]
 rw [e];exact wk h
theorem xz {N n:Nat} (h:N < C ^ n) (J:n=0∨C ^ (n - 1)≤N):nb N=be n N:=by
 unfold nb;rw [OF h J]
theorem UO {b:Bool} {s:ByteArray} (h:0 < s.size) (J:b9 s 0≠0):Value.agg ⟨[.bool b,.string s]⟩=aH (IV.z (b,s)):=by
 have h3:=y7 (s:=s) (.inr J);have h4:ab s≠0:=by
  intro e;rw [e,p8] at h3;rw [h3] at h;exact absurd h (by decide)
 have e:=jr b (ab s);unfold lR at e;rw [← h3] at e;have e1:(ab s != 0)=true:=by simp [h4]
 rw [e1,Bool.and_true] at e;exact e
theorem Qd {n:Nat} (h:n < 9223372036854775808):n / C ^ 8=0:=Nat.div_eq_of_lt (Nat.lt_of_lt_of_le h (by decide))
theorem Mq {A D:Nat} (h:(nb A).size < (nb D).size):A < D:=by
 rw [gP,gP] at h;exact Sd h
theorem UP {A D:Nat} (h:(nb A).size=(nb D).size):Op.bytesLess (nb A).toList (nb D).toList=decide (A < D):=by
 rw [VP h,iy,iy]
theorem UQ {A D:Nat}:((nb A).toList == (nb D).toList)=decide (A=D):=by
 rw [qz];by_cases h:A=D
 ·subst h; simp
 ·have:nb A≠nb D:=fun e=>h (OG e)
  simp [this,h]
theorem F6 (N:Nat):(!(nb N).toList == (⟨#[]⟩:ByteArray).toList)=(N != 0):=by
 by_cases h:N=0
 ·rw [wO h,h]; rfl
 ·rw [wV h]; simp [h]
theorem EJ (n k:Nat):n / C ^ k / 256=n / C ^ (k+1):=by rw [Nat.div_div_eq_div_mul,← Nat.pow_succ]
open Go
def bV (N i:Nat):Nat:=N / C ^ i % C
theorem qB (N i:Nat):bV N i < C:=Nat.mod_lt _ (by decide)
def kl (Y j d:Nat):Nat:=Y % C ^ j+C ^ j*(d+C*(Y / C ^ (j+1)))
theorem Fb (Y j:Nat):Y=Y % C ^ j+C ^ j*(bV Y j+C*(Y / C ^ (j+1))):=by
 have h1:=Nat.mod_add_div Y (C ^ j);have J:=Nat.mod_add_div (Y / C ^ j) C;rw [Nat.div_div_eq_div_mul,← Nat.pow_succ] at J;unfold bV;rw [J,h1]
theorem Ly (Y j d:Nat):kl Y j d+bV Y j*C ^ j=Y+d*C ^ j:=by
 have h:=Fb Y j;unfold kl;rw [Nat.mul_add] at h ⊢;have e1:C ^ j*bV Y j=bV Y j*C ^ j:=Nat.mul_comm _ _;have e2:C ^ j*d=d*C ^ j:=Nat.mul_comm _ _;omega
theorem NU {Y j d:Nat} (hd:d < C) (r:Nat):bV (kl Y j d) r=if r=j then d else bV Y r:=by
 have ha:Y % C ^ j < C ^ j:=Nat.mod_lt _ (ia j);rcases Nat.lt_trichotomy r j with h | h | h
 ·rw [if_neg (by omega)]
  have key:∀ K,bV (Y % C ^ j+C ^ j*K) r=bV (Y % C ^ j) r:=by
   intro K;unfold bV;have e:C ^ j*K=C ^ r*(C*(C ^ (j - r - 1)*K)):=by
    rw [← Nat.mul_assoc,← Nat.mul_assoc,← Nat.pow_succ,← Nat.pow_add,show r+1+(j - r - 1)=j by omega]
   rw [e,Nat.add_mul_div_left _ _ (ia r),Nat.add_mul_mod_self_left]
  have h1:=key (d+C*(Y / C ^ (j+1)));have J:=key (bV Y j+C*(Y / C ^ (j+1)));rw [← Fb Y j] at J;unfold kl;rw [h1,J]
 ·subst h;rw [if_pos rfl];unfold kl bV;rw [oK ha,Nat.add_mul_mod_self_left,Nat.mod_eq_of_lt hd]
 ·rw [if_neg (by omega)]
  have key:∀ d',d' < C→bV (Y % C ^ j+C ^ j*(d'+C*(Y / C ^ (j+1)))) r=Y / C ^ (j+1) / C ^ (r - j - 1) % C:=by
   intro d' cU;unfold bV;have e:C ^ r=C ^ j*(C*C ^ (r - j - 1)):=by
    rw [← Nat.mul_assoc,← Nat.pow_succ,← Nat.pow_add,show j+1+(r - j - 1)=r by omega]
   rw [e,← Nat.div_div_eq_div_mul,oK ha,← Nat.div_div_eq_div_mul,oK cU]
  have h1:=key d hd;have J:=key (bV Y j) (qB Y j);rw [← Fb Y j] at J;unfold kl;rw [h1,J]
theorem V0 (r:Nat):bV 0 r=0:=by simp [bV]
theorem GH {N n:Nat} (h:N < C ^ n) {r:Nat} (hr:n≤r):bV N r=0:=by
 unfold bV;have:C ^ n≤C ^ r:=Nat.pow_le_pow_right (by decide) hr
 rw [Nat.div_eq_of_lt (by omega)]; rfl
theorem wE (N i:Nat):N % C ^ (i+1)=N % C ^ i+bV N i*C ^ i:=by
 unfold bV;rw [Nat.pow_succ,Nat.mod_mul];rw [Nat.mul_comm (C ^ i)]
theorem Lz {Y i d:Nat} (hY:Y < C ^ i):kl Y i d=Y+d*C ^ i:=by
 have h:=Ly Y i d;rw [GH hY (Nat.le_refl _),Nat.zero_mul,Nat.add_zero] at h;exact h
theorem Mr {Z j d m:Nat} (hZ:Z < C ^ m) (hj:j < m) (hd:d < C):kl Z j d < C ^ m:=by
 have h1:(kl Z j d) / C ^ m=0:=by
  have e:C ^ m=C ^ j*(C*C ^ (m - j - 1)):=by
   rw [← Nat.mul_assoc,← Nat.pow_succ,← Nat.pow_add,show j+1+(m - j - 1)=m by omega]
  have ha:Z % C ^ j < C ^ j:=Nat.mod_lt _ (ia j);unfold kl;rw [e,← Nat.div_div_eq_div_mul,oK ha,← Nat.div_div_eq_div_mul,oK hd,Nat.div_div_eq_div_mul,← Nat.pow_add,show j+1+(m - j - 1)=m by omega]
  exact Nat.div_eq_of_lt hZ
 rcases Nat.lt_or_ge (kl Z j d) (C ^ m) with h | h
 ·exact h
 ·have:=Nat.div_pos h (ia m);omega
theorem SJ {Z c x D i k t Y:Nat} (he:Z+c*C ^ (i+k)=Y+x*(D % C ^ k)*C ^ i) (ht:t=c+(x*bV D k+bV Z (i+k))) :
  kl Z (i+k) (t % C)+t / C*C ^ (i+(k+1))=Y+x*(D % C ^ (k+1))*C ^ i:=by
 have hs:=Ly Z (i+k) (t % C);rw [wE D k,← Nat.add_assoc,Nat.pow_succ];rw [Nat.pow_add] at he hs ⊢;exact KV he hs ht
theorem Ts {A D Y Z c i n:Nat} (hY:Y=A % C ^ i*D) (hD:D < C ^ n) (hZ:Z < C ^ (i+n)) (he:Z+c*C ^ (i+n)=Y+bV A i*(D % C ^ n)*C ^ i) :
  kl Z (i+n) c=A % C ^ (i+1)*D:=by
 rw [Lz hZ,he,Nat.mod_eq_of_lt hD,hY,wE,Nat.add_mul,Nat.mul_assoc (bV A i),Nat.mul_comm D,← Nat.mul_assoc]
open Go
abbrev S2:=ByteArray × ByteArray
def S2.ok (i:S2):Prop:=i.1.size≤549755813896∧i.2.size≤549755813896
def wX:bF:={ ι:=S2,args:=fun i=>[.string i.1,.string i.2],pre:=S2.ok,val:=fun i=>.string (nb (ab i.1+ab i.2)) }
def r6:bF:={ ι:=S2,args:=fun i=>[.string i.1,.string i.2],pre:=fun i=>S2.ok i∧ab i.2≤ab i.1,val:=fun i=>.string (nb (ab i.1 - ab i.2)) }
def GI:bF:={ ι:=S2,args:=fun i=>[.string i.1,.string i.2],pre:=fun i=>i.1.size≤549755813888∧i.2.size≤549755813888,val:=fun i=>.string (nb (ab i.1*ab i.2)) }
def p9:bF:={ ι:=ByteArray × Nat,args:=fun i=>[.string i.1,.string (nb i.2)],pre:=fun i=>i.1.size≤549755813888∧aT i.2≤549755813888∧i.2≠0,val:=fun i=>.tuple ⟨[.string (nb (ab i.1 / i.2)),.string (nb (ab i.1 % i.2))]⟩ }
theorem tW {s:ByteArray} {j:Nat} (h:j < s.size):b9 s (s.size - (j+1))=bV (ab s) j:=by
 rw [ua (by omega),show s.size - 1 - (s.size - (j+1))=j by omega]
 rfl
theorem BT {s:ByteArray} {j:Nat} (h:s.size≤j):bV (ab s) j=0:=GH (gE s) h
def mZ (g:Nat→List Value) (n j Y:Nat):Prop:=(∀ r,r < n→∃ x:Int,g r=[.int .u8 x])∧∀ r,n - j≤r→r < n→g r=[.int .u8 ((bV Y (n - 1 - r):Nat):Int)]
theorem Ki (n:Nat):mZ (fun _=>[.int .u8 0]) n 0 0:=⟨fun r _=>⟨0,rfl⟩,fun r h1 J=>absurd h1 (by omega)⟩
theorem Km {g:Nat→List Value} {n j Y d:Nat} (h:mZ g n j Y) (hj:j < n) (hY:Y < C ^ j) (hd:d < C) :
  mZ (fun r=>if r=n - (j+1) then [.int .u8 (d:Nat)] else g r) n (j+1) (Y+d*C ^ j):=by
 refine ⟨fun r hr=>?_,fun r h1 J=>?_⟩
 ·by_cases e:r=n - (j+1)
  ·exact ⟨_,if_pos e⟩
  ·simp only [if_neg e]; exact h.1 r hr
 ·rw [← Lz hY,NU hd];by_cases e:r=n - (j+1)
  ·simp only [if_pos e];rw [if_pos (by omega)]
  ·simp only [if_neg e];rw [if_neg (by omega)]
   exact h.2 r (by omega) J
theorem KC {g:Nat→List Value} {n Y:Nat} (h:mZ g n n Y):(⟨⟨bytesOf g 0 n⟩⟩:ByteArray)=be n Y:=wk fun r hr=>by
 rw [h.2 r (by omega) hr]
 rfl
theorem Tt {X D Y c i t:Nat} (he:Y+c*C ^ i=X % C ^ i+D % C ^ i) (ht:t=c+bV X i+bV D i) :
  Y+t % C*C ^ i+t / C*C ^ (i+1)=X % C ^ (i+1)+D % C ^ (i+1):=by
 rw [wE X i,wE D i,Nat.pow_succ];exact Lu he ht
theorem KX {Y d i:Nat} (hY:Y < C ^ i) (hd:d < C):Y+d*C ^ i < C ^ (i+1):=by
 have h:(d+1)*C ^ i≤C*C ^ i:=Nat.mul_le_mul_right _ hd;rw [Nat.pow_succ,Nat.mul_comm (C ^ i) C];rw [Nat.add_mul] at h;omega
theorem Xn {A D Y c n p q:Nat} (hA:A < C ^ p) (hD:D < C ^ q) (hn:p < n∧q < n) (hY:Y < C ^ n) (he:Y+c*C ^ n=A % C ^ n+D % C ^ n):Y=A+D:=by
 have h1:A < C ^ (n - 1):=Nat.lt_of_lt_of_le hA (Nat.pow_le_pow_right (by decide) (by omega))
 have J:D < C ^ (n - 1):=Nat.lt_of_lt_of_le hD (Nat.pow_le_pow_right (by decide) (by omega))
 have e:C ^ n=C ^ (n - 1)*256:=by rw [← Nat.pow_succ]; congr 1; omega
 have h3:A < C ^ n:=by omega
 have h4:D < C ^ n:=by omega
 rw [Nat.mod_eq_of_lt h3,Nat.mod_eq_of_lt h4] at he;have hc:c=0:=by
  rcases Nat.eq_zero_or_pos c with h | h
  ·exact h
  ·have:1*C ^ n≤c*C ^ n:=Nat.mul_le_mul_right _ h;omega
 subst hc;omega
theorem Cg {n Y:Nat} (h:Y < C ^ n):nb (ab (be n Y))=nb Y:=by rw [GB,Nat.mod_eq_of_lt h]
structure za (A D j Y c:Nat):Prop where
 lt:Y < C ^ j
 eq:Y+c*C ^ j=A % C ^ j+D % C ^ j
theorem Sf (A D:Nat):za A D 0 0 0:=⟨by decide,by simp [Nat.mod_one]⟩
theorem SL {A D j Y c t n:Nat} {g:Nat→List Value} (h:za A D j Y c) (hg:mZ g n j Y) (hj:j < n) (ht:t=c+bV A j+bV D j) :
  ∃ Y',za A D (j+1) Y' (t / C)∧mZ (fun r=>if r=n - (j+1) then [.int .u8 (t % C:Nat)] else g r) n (j+1) Y' :=
 have fV:t % C < C:=Nat.mod_lt _ (by decide)
 ⟨Y+t % C*C ^ j,⟨KX h.lt fV,Tt h.eq ht⟩,Km hg hj h.lt fV⟩
theorem Tu {s t:ByteArray} {Y c n:Nat} {g:Nat→List Value} (h:za (ab s) (ab t) n Y c) (hg:mZ g n n Y) (hn:s.size < n∧t.size < n) :
  ∃ v:ByteArray,(⟨⟨bytesOf g 0 n⟩⟩:ByteArray)=v∧v.size=n∧nb (ab v)=nb (ab s+ab t) :=
 ⟨be n Y,KC hg,wT _ _,by rw [Cg h.lt,Xn (gE s) (gE t) hn h.lt h.eq]⟩
theorem F7 {n:Int} (h:n < 0) (J:-9223372036854775808≤n):IntKind.i64.wrap (0 - n)=if n=-9223372036854775808 then n else -n:=by
 split
 ·rename_i e; subst e; decide
 ·rw [ax (by omega) (by omega)]; omega
theorem Z9:nb 9223372036854775808=⟨#[128,0,0,0,0,0,0,0]⟩:=by
 rw [xz (n:=8) (by decide) (.inr (by decide))]
 rfl
theorem V1:aH (-9223372036854775808)=.agg ⟨[.bool true,.string ⟨#[128,0,0,0,0,0,0,0]⟩]⟩:=by
 rw [← Z9]; rfl
theorem wc {n:Int} (h:n < 0):aH n=.agg ⟨[.bool true,.string (nb n.natAbs)]⟩:=by
 unfold aH;rw [decide_eq_true h]
theorem we {n:Int} (h:0≤n):aH n=.agg ⟨[.bool false,.string (nb n.natAbs)]⟩:=by
 unfold aH;rw [decide_eq_false (by omega)]
theorem IV.aT {i:IV} (h:i.ok):Go.Ae.aT i.z.natAbs≤549755813888:=by
 unfold IV.z;rw [uh];exact Nat.le_trans (jn i.2) h
theorem NV {x y:Int} (hx:0≤x) (hy:0≤y):dO x y=cM x.natAbs y.natAbs:=by
 rw [← BS]; congr 1 <;> omega
theorem NW {x y:Int} (hx:x < 0) (hy:y < 0):dO x y=cM y.natAbs x.natAbs:=by
 rw [← M4]; congr 1 <;> omega
open Go
structure zc (A D j Y c:Nat):Prop where
 lt:Y < C ^ j
 eq:Y+D % C ^ j=A % C ^ j+c*C ^ j
theorem Sg (A D:Nat):zc A D 0 0 0:=⟨by decide,by simp [Nat.mod_one]⟩
theorem Tv {Y D A P c e d a c':Nat} (h:Y+D=A+c*P) (he:e+c+d=a+256*c') :
  Y+e*P+(D+d*P)=A+a*P+c'*(P*256):=by
 have J:(e+c+d)*P=(a+256*c')*P:=by rw [he]
 simp only [Nat.add_mul] at J;have h3:c'*(P*256)=256*c'*P:=by rw [Nat.mul_comm P,← Nat.mul_assoc,Nat.mul_comm c']
 omega
theorem Bh {A D j Y c e c' n:Nat} {g:Nat→List Value} (h:zc A D j Y c) (hg:mZ g n j Y) (hj:j < n) (he:e < C) (ht:e+c+bV D j=bV A j+256*c') :
  ∃ Y',zc A D (j+1) Y' c'∧mZ (fun r=>if r=n - (j+1) then [.int .u8 (e:Nat)] else g r) n (j+1) Y' :=
 ⟨Y+e*C ^ j,⟨KX h.lt he,by
  rw [wE A j,wE D j,Nat.pow_succ];exact Tv h.eq ht⟩,Km hg hj h.lt he⟩
theorem Tw {s t:ByteArray} {Y c:Nat} {g:Nat→List Value} (h:zc (ab s) (ab t) s.size Y c) (hle:ab t≤ab s) (hg:mZ g s.size s.size Y) :
  ∃ v:ByteArray,(⟨⟨bytesOf g 0 s.size⟩⟩:ByteArray)=v∧v.size=s.size∧nb (ab v)=nb (ab s - ab t):=by
 refine ⟨be s.size Y,KC hg,wT _ _,?_⟩;rw [Cg h.lt];have h1:=h.eq;have J:=h.lt;have h3:=gE s;rw [Nat.mod_eq_of_lt h3,Nat.mod_eq_of_lt (Nat.lt_of_le_of_lt hle h3)] at h1;have hc:c=0:=by
  rcases Nat.eq_zero_or_pos c with h | h
  ·exact h
  ·have:1*C ^ s.size≤c*C ^ s.size:=Nat.mul_le_mul_right _ h;omega
 subst hc
 congr 1
 omega
def qJ (g:Nat→List Value) (n Z:Nat):Prop:=∀ r,r < n→g r=[.int .i64 ((bV Z (n - 1 - r):Nat):Int)]
theorem SM (n:Nat):qJ (fun _=>[.int .i64 0]) n 0:=fun r hr=>by rw [V0]; rfl
theorem Ms {g:Nat→List Value} {n Z j d:Nat} (h:qJ g n Z) (hj:j < n) (hd:d < C) :
  qJ (fun r=>if r=n - 1 - j then [.int .i64 (d:Nat)] else g r) n (kl Z j d):=fun r hr=>by
 rw [NU hd];by_cases e:r=n - 1 - j
 ·simp only [if_pos e]; rw [if_pos (by omega)]
 ·simp only [if_neg e]; rw [if_neg (by omega)]; exact h r hr
structure zd (A D p m q Z c:Nat):Prop where
 lt:Z < C ^ (p+m)
 eq:Z+c*C ^ (p+q)=A % C ^ p*D+bV A p*(D % C ^ q)*C ^ p
structure ze (A D p m Z:Nat):Prop where
 lt:Z < C ^ (p+m)
 eq:Z=A % C ^ p*D
theorem Sh (A D m:Nat):ze A D 0 m 0:=⟨ia _,by simp [Nat.mod_one]⟩
theorem Si {A D p m Z:Nat} (h:ze A D p m Z):zd A D p m 0 Z 0:=⟨h.lt,by simp [Nat.mod_one,h.eq]⟩
theorem SN {A D p m q Z c t n:Nat} {g:Nat→List Value} (h:zd A D p m q Z c) (hg:qJ g n Z) (hq:q < m) (hn:p+m < n) (ht:t=c+(bV A p*bV D q+bV Z (p+q))) :
  ∃ Z',zd A D p m (q+1) Z' (t / C)∧qJ (fun r=>if r=n - 1 - (p+q) then [.int .i64 (t % C:Nat)] else g r) n Z' :=
 have fV:t % C < C:=Nat.mod_lt _ (by decide)
 ⟨kl Z (p+q) (t % C),⟨Mr h.lt (by omega) fV,SJ h.eq ht⟩,Ms hg (by omega) fV⟩
theorem Tx {A D p m Z c n:Nat} {g:Nat→List Value} (h:zd A D p m m Z c) (hD:D < C ^ m) (hg:qJ g n Z) (hn:p+m < n) (hc:c < C) :
  (bV Z (p+m)=0)∧∃ Z',ze A D (p+1) m Z'∧qJ (fun r=>if r=n - 1 - (p+m) then [.int .i64 (c:Nat)] else g r) n Z' :=
 ⟨GH h.lt (Nat.le_refl _),kl Z (p+m) c,⟨by
  rw [show p+1+m=p+m+1 by omega]
  exact Mr (Nat.lt_of_lt_of_le h.lt (Nat.pow_le_pow_right (by decide) (Nat.le_succ _))) (by omega) hc,Ts rfl hD h.lt h.eq⟩,Ms hg hn hc⟩
theorem Ty {A D p m Z:Nat} (h:ze A D p m Z) (hA:A < C ^ p):Z=A*D:=by rw [h.eq,Nat.mod_eq_of_lt hA]
def wP (g:Nat→List Value) (n i Z:Nat):Prop:=(∀ r,r < n→∃ x:Int,g r=[.int .u8 x])∧∀ r,r < i→g r=[.int .u8 ((bV Z (n - 1 - r):Nat):Int)]
theorem RW (n Z:Nat):wP (fun _=>[.int .u8 0]) n 0 Z:=⟨fun r _=>⟨0,rfl⟩,fun r h=>absurd h (by omega)⟩
theorem R0 {g:Nat→List Value} {n i Z:Nat} (h:wP g n i Z) (hi:i < n) :
  wP (fun r=>if r=i then [.int .u8 (bV Z (n - 1 - i):Nat)] else g r) n (i+1) Z:=by
 refine ⟨fun r hr=>?_,fun r hr=>?_⟩
 ·by_cases e:r=i
  ·exact ⟨_,if_pos e⟩
  ·simp only [if_neg e]; exact h.1 r hr
 ·by_cases e:r=i
  ·subst e; simp
  ·simp only [if_neg e]; exact h.2 r (by omega)
theorem Sj {g:Nat→List Value} {n Z:Nat} (h:wP g n n Z):(⟨⟨bytesOf g 0 n⟩⟩:ByteArray)=be n Z:=wk fun r hr=>h.2 r hr
theorem Sk {g:Nat→List Value} {n Z:Nat} (h:wP g n n Z) (hZ:Z < C ^ n):∃ v:ByteArray,(⟨⟨bytesOf g 0 n⟩⟩:ByteArray)=v∧v.size=n∧nb (ab v)=nb Z :=
 ⟨be n Z,Sj h,wT _ _,Cg hZ⟩
theorem Tz {c x y z t:Nat} (hc:c < C) (hx:x < C) (hy:y < C) (hz:z < C) (ht:t=c+(x*y+z)):t / C < C∧t < 65536:=by
 have:x*y≤255*255:=Nat.mul_le_mul (Nat.le_of_lt_succ hx) (Nat.le_of_lt_succ hy);have hc:c < 256:=hc;have hz:z < 256:=hz;have h:t < 65536:=by omega
 exact ⟨by show t / 256 < 256; omega,h⟩
theorem Xo {c x y z t:Nat} (hc:c < C) (hx:x < C) (hy:y < C) (hz:z < C) (ht:t=c+(x*y+z)) :
  IntKind.i64.wrap ((c:Int)+IntKind.i64.wrap ((z:Int)+IntKind.i64.wrap (IntKind.i64.wrap (x:Int)*IntKind.i64.wrap (y:Int))))=(t:Int):=by
 have h:x*y≤255*255:=Nat.mul_le_mul (Nat.le_of_lt_succ hx) (Nat.le_of_lt_succ hy);have hc:c < 256:=hc;have hz:z < 256:=hz;have hx:x < 256:=hx;have hy:y < 256:=hy;have e:(x:Int)*(y:Int)=((x*y:Nat):Int):=by rw [Int.natCast_mul]
 rw [ax (x:=(x:Int)) (by omega) (by omega),ax (x:=(y:Int)) (by omega) (by omega),e,ax (x:=((x*y:Nat):Int)) (by omega) (by omega),ax (x:=(z:Int)+_) (by omega) (by omega),ax (by omega) (by omega)]
 omega
theorem Xp {t:Nat} (h:t < 65536):((BitVec.ofInt IntKind.i64.bits (t:Int) &&& BitVec.ofInt IntKind.i64.bits 255).toNat:Int)=((t % C:Nat):Int):=by
 have e1:BitVec.ofInt IntKind.i64.bits (t:Int)=BitVec.ofNat 64 t:=by
  apply BitVec.eq_of_toNat_eq;show ((t:Int) % ((2 ^ 64:Nat):Int)).toNat=t % 2 ^ 64
  omega
 rw [e1];show (((t % 2 ^ 64) &&& 255:Nat):Int)=_
 have:(t % 2 ^ 64) &&& 255=t % 256:=by
  rw [show (255:Nat)=2 ^ 8 - 1 from rfl,Nat.and_two_pow_sub_one_eq_mod]
  omega
 rw [this]
theorem V2 {s t:ByteArray}:ab s*ab t < C ^ (s.size+t.size):=by
 rw [Nat.pow_add];exact Nat.lt_of_le_of_lt (Nat.mul_le_mul_right _ (Nat.le_of_lt (gE s))) (Nat.mul_lt_mul_of_pos_left (gE t) (ia _))
theorem uZ {e:Nat} (h:e < 256):IntKind.u8.wrap (e:Int)=(e:Int):=dF (by omega) (by omega)
structure xk (s:ByteArray) (D i Q R:Nat):Prop where
 eq:ab s / C ^ (s.size - i)=Q*D+R
 lt:R < D
 q:Q < C ^ i
structure uz (D R' k d R:Nat):Prop where
 eq:R'=d*D+R
 lt:R < 2 ^ k*D
 d:d+2 ^ k≤256
theorem Sl (s:ByteArray) {D:Nat} (hD:D≠0):xk s D 0 0 0:=⟨by
 rw [Nat.sub_zero,Nat.div_eq_of_lt (gE s),Nat.zero_mul],Nat.pos_of_ne_zero hD,Nat.zero_lt_one⟩
theorem R1 {s:ByteArray} {D i Q R:Nat} (h:xk s D i Q R) (hi:i < s.size):uz D (R*256+b9 s i) 8 0 (R*256+b9 s i) :=
 ⟨by omega,by
  have h1:b9 s i < 256:=wB s i;have J:=h.lt;show _ < 256*D
  omega,by decide⟩
theorem SO {D R' k d R:Nat} (h:uz D R' (k+1) d R) (hR:2 ^ k*D≤R):uz D R' k (d+2 ^ k) (R - 2 ^ k*D):=⟨by
 have:=h.eq;rw [Nat.add_mul];omega,by
 have:=h.lt;rw [Nat.pow_succ,Nat.mul_comm (2 ^ k) 2,Nat.mul_assoc] at this;omega,by
 have:=h.d;rw [Nat.pow_succ] at this;omega⟩
theorem TA {D R' k d R:Nat} (h:uz D R' (k+1) d R) (hR:R < 2 ^ k*D):uz D R' k d R:=⟨h.eq,hR,by
 have:=h.d;rw [Nat.pow_succ] at this;omega⟩
theorem SP {s:ByteArray} {D i Q R d R2:Nat} (h:xk s D i Q R) (hi:i < s.size) (J:uz D (R*256+b9 s i) 0 d R2):xk s D (i+1) (Q*256+d) R2:=⟨by
 rw [yH hi,h.eq,Nat.add_mul (Q*256),Nat.add_mul (Q*D)];have h3:=J.eq;have e:Q*256*D=Q*D*256:=by rw [Nat.mul_assoc,Nat.mul_comm 256,Nat.mul_assoc]
 rw [e,Nat.add_assoc,h3,Nat.add_assoc],by have:=J.lt; simpa using this,by
 have:=h.q;have h3:d < 256:=by have:=J.d; omega
 rw [Nat.pow_succ];show _ < C ^ i*256
 omega⟩
theorem TB {s:ByteArray} {D Q R:Nat} (h:xk s D s.size Q R):Q=ab s / D∧R=ab s % D:=by
 have h1:=h.eq;rw [Nat.sub_self,Nat.pow_zero,Nat.div_one] at h1;have J:=h.lt;refine ⟨?_,?_⟩
 ·rw [h1,Nat.mul_comm,Nat.mul_add_div (by omega),Nat.div_eq_of_lt J,Nat.add_zero]
 ·rw [h1,Nat.mul_comm,Nat.mul_add_mod,Nat.mod_eq_of_lt J]
def BB (g:Nat→List Value) (i D:Nat):Prop:=(∀ r,r < 8→∃ x:ByteArray,g r=[.string x])∧∀ r,r < i→g r=[.string (nb (2 ^ r*D))]
theorem RR (D:Nat):BB (fun r=>if r=0 then [.string (nb D)] else [.string ⟨#[]⟩]) 1 D:=by
 refine ⟨fun r hr=>?_,fun r hr=>?_⟩
 ·by_cases e:r=0
  ·exact ⟨_,if_pos e⟩
  ·exact ⟨_,if_neg e⟩
 ·have e:r=0:=by omega
  subst e;simp
theorem RX {g:Nat→List Value} {i D:Nat} (h:BB g (i+1) D) (hi:i+1 < 8) {v:ByteArray} (hv:v=nb (2 ^ i*D+2 ^ i*D)) :
  BB (fun r=>if r=i+1 then [.string v] else g r) (i+1+1) D:=by
 refine ⟨fun r hr=>?_,fun r hr=>?_⟩
 ·by_cases e:r=i+1
  ·exact ⟨_,if_pos e⟩
  ·simp only [if_neg e]; exact h.1 r hr
 ·by_cases e:r=i+1
  ·subst e;simp only [if_true];rw [hv,Nat.pow_succ,Nat.mul_comm (2 ^ i) 2,Nat.mul_assoc,Nat.two_mul]
  ·simp only [if_neg e]; exact h.2 r (by omega)
theorem FE {D k:Nat} (hk:k≤8):aT (2 ^ k*D)≤aT D+1:=gX (by
 have h1:=lG D;have J:2 ^ k≤2 ^ 8:=Nat.pow_le_pow_right (by decide) hk
 rw [Nat.pow_succ,Nat.mul_comm (C ^ _)];exact Nat.lt_of_le_of_lt (Nat.mul_le_mul_right _ J) (Nat.mul_lt_mul_of_pos_left h1 (by decide)))
theorem aec {k:Nat} (h:k≤7):IntKind.i64.wrap (1*2 ^ min (Int.toNat (IntKind.u64.wrap (k:Int))) IntKind.i64.bits)=((2 ^ k:Nat):Int):=by
 rcases k with _ | _ | _ | _ | _ | _ | _ | _ | k
 all_goals first | rfl | decide | omega
theorem UR (R:Nat) {s:ByteArray} {i:Nat} (h:i < s.size):ab (nb R++s.extract i (i+1))=R*256+b9 s i∧(nb R++s.extract i (i+1)).size=aT R+1:=by
 have e:=EC (s:=s) (l:=i) (h:=i+1) (by omega) (by omega)
 refine ⟨?_,by rw [ByteArray.size_append,gP,e]; omega⟩
 rw [SE,iy,e,EG (by omega) (by omega),ua h]
 rw [show i+1 - i=1 by omega,Nat.pow_one,show s.size - (i+1)=s.size - 1 - i by omega]
def zE (g:Nat→List Value) (n i Q:Nat):Prop:=(∀ r,r < n→∃ x:Int,g r=[.int .u8 x])∧∀ r,r < i→g r=[.int .u8 ((bV Q (i - 1 - r):Nat):Int)]
theorem SQ (n:Nat):zE (fun _=>[.int .u8 0]) n 0 0:=⟨fun r _=>⟨0,rfl⟩,fun r h=>absurd h (by omega)⟩
theorem M8 {Q d:Nat} (hd:d < 256) (r:Nat):bV (Q*256+d) (r+1)=bV Q r∧bV (Q*256+d) 0=d:=by
 unfold bV;have e:(Q*256+d) / 256=Q:=by omega
 refine ⟨?_,?_⟩
 ·rw [Nat.pow_succ,Nat.mul_comm (C ^ r) C,← Nat.div_div_eq_div_mul];show (Q*256+d) / 256 / _ % _=_
  rw [e]
 ·rw [Nat.pow_zero,Nat.div_one];show _ % 256=_
  omega
theorem TC {g:Nat→List Value} {n i Q d:Nat} (h:zE g n i Q) (hi:i < n) (hd:d < 256) :
  zE (fun r=>if r=i then [.int .u8 (d:Nat)] else g r) n (i+1) (Q*256+d):=by
 refine ⟨fun r hr=>?_,fun r hr=>?_⟩
 ·by_cases e:r=i
  ·exact ⟨_,if_pos e⟩
  ·simp only [if_neg e]; exact h.1 r hr
 ·by_cases e:r=i
  ·subst e; simp only [if_true];rw [show r+1 - 1 - r=0 by omega,(M8 hd 0).2]
  ·simp only [if_neg e];rw [h.2 r (by omega),show i+1 - 1 - r=(i - 1 - r)+1 by omega,(M8 hd _).1]
theorem US {g:Nat→List Value} {n Q:Nat} (h:zE g n n Q) (hQ:Q < C ^ n):∃ v:ByteArray,(⟨⟨bytesOf g 0 n⟩⟩:ByteArray)=v∧v.size=n∧nb (ab v)=nb Q :=
 ⟨be n Q,wk fun r hr=>h.2 r hr,wT _ _,Cg hQ⟩
open Go
theorem wY {B:Bool} {N:Nat} {z:Int} (h1:B=decide (z < 0)) (J:N=z.natAbs):Value.agg ⟨[.bool B,.string (nb N)]⟩=aH z:=by
 subst h1; subst J; rfl
structure EI (z:Int) (B:Bool) (m:ByteArray):Prop where
 enc:aH z=.agg ⟨[.bool B,.string m]⟩
 sign:B=decide (z < 0)
 nH:m=nb z.natAbs
theorem EI.mk' (z:Int):∃ B m,EI z B m:=⟨_,_,rfl,rfl,rfl⟩
theorem EI.abs {z:Int} {B:Bool} {m:ByteArray} (h:EI z B m):ab m=z.natAbs:=by rw [h.nH,iy]
theorem EI.val {z:Int} {B:Bool} {m:ByteArray} (h:EI z B m):IV.z (B,m)=z:=by
 rw [h.sign,h.nH]; exact OK z
theorem EI.nil {z:Int} {B:Bool} {m:ByteArray} (h:EI z B m):(m.toList == (⟨#[]⟩:ByteArray).toList)=decide (z=0):=by
 have e:=F6 z.natAbs;rw [← h.nH] at e;have e2:(m.toList == (⟨#[]⟩:ByteArray).toList)=!(z.natAbs != 0):=by rw [← e,Bool.not_not]
 rw [e2];by_cases hz:z=0
 ·subst hz; rfl
 ·have:z.natAbs≠0:=by omega
  rw [decide_eq_false hz];simp [this]
theorem EI.nn {z:Int} {B:Bool} {m:ByteArray} (h:EI z B m):(!(m.toList == (⟨#[]⟩:ByteArray).toList))=decide (z≠0):=by
 rw [h.nil]; by_cases hz:z=0 <;> simp [hz]
theorem EI.size {z:Int} {B:Bool} {m:ByteArray} (h:EI z B m):m.size=aT z.natAbs:=by rw [h.nH,gP]
theorem EI.eta {z:Int} {B:Bool} {m:ByteArray} (h:EI z B m):m=nb (ab m):=by rw [h.abs,h.nH]
theorem EI.small {z:Int} {B:Bool} {m:ByteArray} (h:EI z B m) (h7:m.size≤7):-72057594037927936 < z∧z < 72057594037927936:=by
 have:=GG (i:=(B,m)) h7;rw [h.val] at this;exact this
theorem EI.same {x y:Int} {B D:Bool} {m k:ByteArray} (h:EI x B m) (J:EI y D k) (e:B=D):Value.agg ⟨[.bool B,.string (nb (ab m+ab k))]⟩=aH (x+y):=by
 have h3:=h.sign;have h4:=J.sign;rw [← e] at h4;refine wY ?_ ?_
 ·cases B
  ·have:=of_decide_eq_false h3.symm;have:=of_decide_eq_false h4.symm;exact (decide_eq_false (by omega)).symm
  ·have:=of_decide_eq_true h3.symm;have:=of_decide_eq_true h4.symm;exact (decide_eq_true (by omega)).symm
 ·rw [h.abs,J.abs];cases B
  ·have:=of_decide_eq_false h3.symm;have:=of_decide_eq_false h4.symm;omega
  ·have:=of_decide_eq_true h3.symm;have:=of_decide_eq_true h4.symm;omega
theorem EI.differ {x y:Int} {B D:Bool} {m k:ByteArray} (h:EI x B m) (J:EI y D k) (e:B≠D) (al:ab k < ab m):Value.agg ⟨[.bool B,.string (nb (ab m - ab k))]⟩=aH (x+y):=by
 have h3:=h.sign;have h4:=J.sign;rw [h.abs,J.abs] at al ⊢;cases B <;> cases D
 ·exact absurd rfl e
 ·have:=of_decide_eq_false h3.symm;have:=of_decide_eq_true h4.symm;exact wY (decide_eq_false (by omega)).symm (by omega)
 ·have:=of_decide_eq_true h3.symm;have:=of_decide_eq_false h4.symm;exact wY (decide_eq_true (by omega)).symm (by omega)
 ·exact absurd rfl e
theorem EI.equal {x y:Int} {B D:Bool} {m k:ByteArray} (h:EI x B m) (J:EI y D k) (e:B≠D) (al:ab k=ab m):x+y=0:=by
 have h3:=h.sign;have h4:=J.sign;rw [h.abs,J.abs] at al;cases B <;> cases D
 ·exact absurd rfl e
 ·have:=of_decide_eq_false h3.symm;have:=of_decide_eq_true h4.symm;omega
 ·have:=of_decide_eq_true h3.symm;have:=of_decide_eq_false h4.symm;omega
 ·exact absurd rfl e
theorem EI.mul {x y:Int} {B D:Bool} {m k:ByteArray} (h:EI x B m) (J:EI y D k) (hx:x≠0) (hy:y≠0):Value.agg ⟨[.bool (B != D),.string (nb (ab m*ab k))]⟩=aH (x*y):=by
 have h3:=h.sign;have h4:=J.sign;rw [h.abs,J.abs];refine wY ?_ (by rw [Int.natAbs_mul])
 have hm:x*y < 0↔¬ ((x < 0)↔(y < 0)):=by
  rcases Int.lt_or_gt_of_ne hx with a | a <;> rcases Int.lt_or_gt_of_ne hy with b | b
  ·have:=Int.mul_pos_of_neg_of_neg a b;constructor
   ·intro; omega
   ·intro h; exact absurd ⟨fun _=>b,fun _=>a⟩ h
  ·have:=Int.mul_neg_of_neg_of_pos a b;constructor
   ·intro _ h; have:=h.1 a; omega
   ·intro; exact this
  ·have:=Int.mul_neg_of_pos_of_neg a b;constructor
   ·intro _ h; have:=h.2 b; omega
   ·intro; exact this
  ·have:=Int.mul_pos a b;constructor
   ·intro; omega
   ·intro h; exact absurd ⟨fun q=>by omega,fun q=>by omega⟩ h
 rw [h3,h4];by_cases a:x < 0 <;> by_cases b:y < 0 <;> simp [a,b,hm]
theorem EI.a9 {z:Int} {B:Bool} {m:ByteArray} (h:EI z B m):Go.Ae.a9 B (ab m)=z:=h.val
theorem F8 {x y zq zr:Int} {B D:Bool} {m k:ByteArray} (hE:EI x B m) (hF:EI y D k) (hy:y≠0) (h:B=D) (hq:zq=((ab m / ab k:Nat):Int)) (hr:zr=((ab m % ab k:Nat):Int)) :
  zq=Int.fdiv x y∧(if D=true then -zr else zr)=Int.fmod x y:=by
 have hk:0 < ab k:=by rw [hF.abs]; omega
 obtain ⟨h1,J⟩:=wD (b:=B) (c:=D) (A:=ab m) hk (.inr h);rw [hE.a9,hF.a9] at h1 J;rw [h1,J,hq,hr,h];cases D <;> exact ⟨rfl,rfl⟩
theorem FF {x y zq zr:Int} {B D:Bool} {m k:ByteArray} (hE:EI x B m) (hF:EI y D k) (hy:y≠0) (h:B≠D) (hq:zq=((ab m / ab k:Nat):Int)) (hr:zr=((ab m % ab k:Nat):Int)) (h0:zr=0) :
  -zq=Int.fdiv x y∧(if D=true then -zr else zr)=Int.fmod x y:=by
 have hk:0 < ab k:=by rw [hF.abs]; omega
 have h3:ab m % ab k=0:=by rw [h0] at hr; omega
 obtain ⟨h1,J⟩:=wD (b:=B) (c:=D) (A:=ab m) hk (.inl h3);rw [hE.a9,hF.a9] at h1 J;rw [h1,J,hq,h0,h3];refine ⟨?_,?_⟩
 ·cases B <;> cases D
  ·exact absurd rfl h
  ·rfl
  ·rfl
  ·exact absurd rfl h
 ·cases B <;> cases D <;> rfl
theorem F9 {x y zq zr:Int} {B D:Bool} {m k:ByteArray} (hE:EI x B m) (hF:EI y D k) (hy:y≠0) (h:B≠D) (hq:zq=((ab m / ab k:Nat):Int)) (hr:zr=((ab m % ab k:Nat):Int)) (h0:zr≠0) :
  -zq - 1=Int.fdiv x y∧(if D=true then -(((ab k:Nat):Int) - zr) else ((ab k:Nat):Int) - zr)=Int.fmod x y:=by
 have hk:0 < ab k:=by rw [hF.abs]; omega
 obtain ⟨h1,J⟩:=Fa (b:=B) (c:=D) (A:=ab m) hk (by omega) h
 rw [hE.a9,hF.a9] at h1;rw [hE.a9] at J;rw [hF.a9] at J;rw [h1,J,hq,hr];refine ⟨?_,?_⟩
 ·cases B <;> cases D
  ·exact absurd rfl h
  ·rfl
  ·rfl
  ·exact absurd rfl h
 ·have hv:=hF.a9;cases B <;> cases D
  ·exact absurd rfl h
  ·rw [← hv]; unfold Go.Ae.a9; simp only [if_true]; simp; omega
  ·rw [← hv]; unfold Go.Ae.a9; simp only [if_true]; simp; omega
  ·exact absurd rfl h
theorem EI.jd {z:Int} (h:0≤z):∃ m,EI z false m:=⟨_,(wY (decide_eq_false (by omega)).symm rfl).symm,(decide_eq_false (by omega)).symm,rfl⟩
theorem M9 {n:Nat} (h:n < 72057594037927936):IntKind.i64.wrap (n:Int)=n:=ax (by omega) (by omega)
theorem R4 {x y:Int} (h:aT x.natAbs+aT y.natAbs < 8):-9223372036854775808≤x*y∧x*y < 9223372036854775808:=by
 have h1:=lG x.natAbs;have J:=lG y.natAbs;have h3:x.natAbs*y.natAbs < C ^ (aT x.natAbs+aT y.natAbs):=by
  rw [Nat.pow_add];exact Nat.lt_of_le_of_lt (Nat.mul_le_mul_right _ (Nat.le_of_lt h1)) (Nat.mul_lt_mul_of_pos_left J (ia _))
 have h4:=n9 (i:=aT x.natAbs+aT y.natAbs) (by omega)
 rw [← Int.natAbs_mul] at h3;omega
open Go
def fO (d:Nat):ByteArray:=if d=1 then ⟨#[]⟩ else nb d
def bM (q:Rat):Value:=.agg ⟨[.bool (decide (q.num < 0)),.string (nb q.num.natAbs),.string (fO q.den)]⟩
abbrev RV:=Bool × ByteArray × ByteArray
def RV.v (i:RV):Value:=.agg ⟨[.bool i.1,.string i.2.1,.string i.2.2]⟩
def RV.n (i:RV):Int:=a9 i.1 (ab i.2.1)
def RV.d (i:RV):Nat:=if ab i.2.2=0 then 1 else ab i.2.2
def RV.q (i:RV):Rat:=mkRat i.n i.d
def RV.ok (i:RV):Prop:=i.2.1.size≤8589934592∧i.2.2.size≤8589934592
def RV.of (q:Rat):RV:=(decide (q.num < 0),nb q.num.natAbs,fO q.den)
theorem RV.jS (i:RV):i.d≠0:=by
 unfold RV.d
 split <;> omega
theorem UT {d:Nat} (h:d≠0):(if ab (fO d)=0 then 1 else ab (fO d))=d:=by
 unfold fO
 split
 ·rename_i e; rw [e]; rfl
 ·rw [iy,if_neg h]
theorem RV.Qe (q:Rat):(RV.of q).n=q.num:=by
 exact OK q.num
theorem RV.Qf (q:Rat):(RV.of q).d=q.den:=UT q.den_nz
theorem RV.iE (q:Rat):(RV.of q).q=q:=by
 unfold RV.q;rw [RV.Qe,RV.Qf,Rat.mkRat_self]
theorem Hd (n:Int) {d:Nat} (h:d≠0):n.fdiv ((Int.gcd n d:Nat):Int)=(mkRat n d).num:=by
 rw [Rat.num_mkRat,if_neg h,Int.fdiv_eq_ediv_of_nonneg _ (by omega)]
 rw [Int.gcd_comm]; rfl
theorem He (n:Int) {d:Nat} (h:d≠0):((d:Nat):Int).fdiv ((Int.gcd n d:Nat):Int)=(((mkRat n d).den:Nat):Int):=by
 rw [Rat.den_mkRat,if_neg h,Int.fdiv_eq_ediv_of_nonneg _ (by omega),Int.natCast_ediv]
 rw [Int.gcd_comm]; rfl
theorem aaa (n:Int) {d:Nat} (h:d≠0):(mkRat n d).num.natAbs≤n.natAbs:=by
 rw [Rat.num_mkRat,if_neg h];exact Int.natAbs_ediv_le_natAbs n _
theorem OL (n:Int) {d:Nat} (h:d≠0):(mkRat n d).den≤d:=by
 rw [Rat.den_mkRat,if_neg h];exact Nat.div_le_self _ _
def QB (q:Rat) (k:Nat):Prop:=aT q.num.natAbs≤k∧aT q.den≤k
theorem wZ (a b:Nat):aT (a*b)≤aT a+aT b:=gX (by
 rw [Nat.pow_add];exact Nat.lt_of_le_of_lt (Nat.mul_le_mul_right _ (Nat.le_of_lt (lG a))) (Nat.mul_lt_mul_of_pos_left (lG b) (ia _)))
theorem NX {a b k:Nat} (ha:aT a≤k) (hb:aT b≤k):aT (a+b)≤k+1:=gX (by
 have h1:=Nat.lt_of_lt_of_le (lG a) (Nat.pow_le_pow_right (n:=C) (by decide) ha)
 have J:=Nat.lt_of_lt_of_le (lG b) (Nat.pow_le_pow_right (n:=C) (by decide) hb)
 rw [Nat.pow_succ];show _ < C ^ k*256
 omega)
theorem QB.mk {n:Int} {d k:Nat} (hd:d≠0) (h1:aT n.natAbs≤k) (J:aT d≤k):QB (mkRat n d) k :=
 ⟨Nat.le_trans (iZ (aaa n hd)) h1,Nat.le_trans (iZ (OL n hd)) J⟩
theorem QB.mono {q:Rat} {k l:Nat} (h:QB q k) (hl:k≤l):QB q l:=⟨Nat.le_trans h.1 hl,Nat.le_trans h.2 hl⟩
theorem QB.add {p q:Rat} {k l:Nat} (hp:QB p k) (hq:QB q l):QB (p+q) (k+l+1):=by
 rw [Rat.add_def'];refine QB.mk (Nat.mul_ne_zero p.den_nz q.den_nz) ?_ ?_
 ·have h1:aT (p.num*q.den).natAbs≤k+l:=by
   rw [Int.natAbs_mul]; exact Nat.le_trans (wZ _ _) (Nat.add_le_add hp.1 hq.2)
  have J:aT (q.num*p.den).natAbs≤k+l:=by
   rw [Int.natAbs_mul]; exact Nat.le_trans (wZ _ _) (by rw [Nat.add_comm k]; exact Nat.add_le_add hq.1 hp.2)
  exact Nat.le_trans (iZ (Int.natAbs_add_le _ _)) (NX h1 J)
 ·exact Nat.le_trans (wZ _ _) (Nat.le_succ_of_le (Nat.add_le_add hp.2 hq.2))
theorem QB.neg {p:Rat} {k:Nat} (hp:QB p k):QB (-p) k:=⟨by rw [Rat.neg_num,Int.natAbs_neg]; exact hp.1,hp.2⟩
theorem QB.sub {p q:Rat} {k l:Nat} (hp:QB p k) (hq:QB q l):QB (p - q) (k+l+1):=by
 rw [Rat.sub_eq_add_neg]; exact hp.add hq.neg
theorem QB.mul {p q:Rat} {k l:Nat} (hp:QB p k) (hq:QB q l):QB (p*q) (k+l):=by
 rw [Rat.mul_def'];refine QB.mk (Nat.mul_ne_zero p.den_nz q.den_nz) ?_ (Nat.le_trans (wZ _ _) (Nat.add_le_add hp.2 hq.2));rw [Int.natAbs_mul]; exact Nat.le_trans (wZ _ _) (Nat.add_le_add hp.1 hq.1)
theorem RV.qb {i:RV} {k:Nat} (h1:i.2.1.size≤k) (J:i.2.2.size≤k) (hk:1≤k):QB i.q k:=by
 refine QB.mk i.jS ?_ ?_
 ·unfold RV.n;rw [uh];exact Nat.le_trans (jn _) h1
 ·unfold RV.d
  split
  ·exact Nat.le_trans (gX (show 1 < C ^ 1 by decide)) hk
  ·exact Nat.le_trans (jn _) J
theorem Mt {d k:Nat} (h:aT d≤k):(fO d).size≤k:=by
 unfold fO
 split
 ·exact Nat.zero_le _
 ·rw [gP]; exact h
theorem RV.sH {q:Rat} (h:QB q 8589934592):(RV.of q).ok:=⟨by show (nb _).size≤_; rw [gP]; exact h.1,Mt h.2⟩
open Go
def xA (n d:IV):Value:=.agg ⟨[.bool n.1,.string n.2,.bool d.1,.string d.2]⟩
def ig:bF:={ ι:=IV × Int,args:=fun i=>[i.1.v,.int .i64 i.2],pre:=fun i=>i.1.ok∧-9223372036854775808≤i.2∧i.2 < 9223372036854775808,val:=fun i=>.bool (decide (i.1.z=i.2)) }
def Na:bF:={ ι:=IV,args:=fun i=>[.bool i.1,.string i.2],pre:=fun _=>True,val:=fun i=>i.v }
def RV.den (i:RV):ByteArray:=if ab i.2.2=0 then nb 1 else i.2.2
def lT:bF:={ ι:=RV,args:=fun i=>[i.v],pre:=fun i=>i.2.2.size≤549755813888,val:=fun i=>xA (i.1,i.2.1) (false,i.den) }
def oS:bF:={ ι:=IV × IV,args:=fun i=>[xA i.1 i.2],pre:=fun i=>i.1.ok∧i.2.ok∧0 < i.2.z,val:=fun i=>bM (mkRat i.1.z i.2.z.natAbs) }
def qe:bF:={ ι:=IV × IV,args:=fun i=>[i.1.v,i.2.v],pre:=fun i=>i.1.ok∧i.2.ok∧0 < i.2.z,val:=fun i=>bM (mkRat i.1.z i.2.z.natAbs) }
def RV.gh (i:RV):Prop:=i.2.1.size≤3∧i.2.2.size≤3
instance (i:RV):Decidable i.gh:=inferInstanceAs (Decidable (_∧_))
def bG:bF:={ ι:=RV,args:=fun i=>[i.v],pre:=fun _=>True,val:=fun i=>.tuple ⟨[.int .i64 (if i.gh then i.n else 0),.int .i64 (if i.gh then (i.d:Int) else 0),.bool (decide i.gh)]⟩ }
def sI:bF:={ ι:=Nat,args:=fun n=>[.int .i64 n],pre:=fun n=>n < 72057594037927936,val:=fun n=>.string (nb n) }
def nR:bF:={ ι:=Int × Nat,args:=fun i=>[.int .i64 i.1,.int .i64 i.2],pre:=fun i=>i.1.natAbs < 72057594037927936∧i.2≠0∧i.2 < 72057594037927936,val:=fun i=>bM (mkRat i.1 i.2) }
def nS:bF:={ ι:=RV,args:=fun i=>[i.v],pre:=RV.ok,val:=fun i=>.tuple ⟨[aH i.n,aH i.d]⟩ }
abbrev nI:=RV × RV
def nI.ok (i:nI):Prop:=i.1.ok∧i.2.ok
def ba (p q:Rat):Int:=if p < q then -1 else if q < p then 1 else 0
def lK:bF:={ ι:=nI,args:=fun i=>[i.1.v,i.2.v],pre:=nI.ok,val:=fun i=>bM (i.1.q+i.2.q) }
def gZ:bF:={ ι:=nI,args:=fun i=>[i.1.v,i.2.v],pre:=nI.ok,val:=fun i=>bM (i.1.q - i.2.q) }
def lL:bF:={ ι:=nI,args:=fun i=>[i.1.v,i.2.v],pre:=nI.ok,val:=fun i=>bM (i.1.q*i.2.q) }
def jT:bF:={ ι:=nI,args:=fun i=>[i.1.v,i.2.v],pre:=nI.ok,val:=fun i=>.int .i64 (ba i.1.q i.2.q) }
def zf:bF:={ ι:=RV,args:=fun i=>[i.v],pre:=RV.ok,val:=fun i=>bM i.q }
def mM:bF:={ ι:=Int,args:=fun n=>[.int .i64 n],pre:=fun n=>-9223372036854775808≤n∧n < 9223372036854775808,val:=fun n=>bM (n:Rat) }
theorem RV.Hf {i:RV} (h:i.gh):-16777216 < i.n∧i.n < 16777216:=by
 have h1:=gE i.2.1;have J:C ^ i.2.1.size≤C ^ 3:=Nat.pow_le_pow_right (by decide) h.1
 have h3:ab i.2.1 < 16777216:=Nat.lt_of_lt_of_le h1 J;unfold RV.n;unfold a9
 split <;> omega
theorem RV.Hg {i:RV} (h:i.gh):0 < i.d∧i.d < 16777216:=by
 have h1:=gE i.2.2;have J:C ^ i.2.2.size≤C ^ 3:=Nat.pow_le_pow_right (by decide) h.2
 have h3:ab i.2.2 < 16777216:=Nat.lt_of_lt_of_le h1 J;unfold RV.d
 split <;> omega
theorem RV.jU (i:RV):IV.z (false,i.den)=((i.d:Nat):Int):=by
 show ((ab i.den:Nat):Int)=_
 unfold RV.den RV.d
 split
 ·rw [iy]
 ·rfl
theorem RV.rU (i:RV):i.den.size≤i.2.2.size+1:=by
 unfold RV.den
 split
 ·exact Nat.le_trans Hc (Nat.le_add_left _ _)
 ·exact Nat.le_succ _
theorem RV.aed (i:RV):i.q=mkRat i.n (IV.z (false,i.den)).natAbs:=by rw [RV.jU]; rfl
theorem KY {a b:Int} (h1:-16777216 < a∧a < 16777216) (J:0 < b∧b < 16777216):-281474976710656 < a*b∧a*b < 281474976710656:=by
 have h3:(a*b).natAbs≤16777215*16777215:=by
  rw [Int.natAbs_mul];exact Nat.mul_le_mul (by omega) (by omega)
 omega
theorem HK (a b:RV):a.q+b.q=mkRat (a.n*b.d+b.n*a.d) (a.d*b.d):=Rat.mkRat_add_mkRat _ _ a.jS b.jS
theorem HL (a b:RV):a.q*b.q=mkRat (a.n*b.n) (a.d*b.d):=Rat.mkRat_mul_mkRat _ _ _ _
theorem yI (i:RV):i.q=(i.n:Rat) / ((i.d:Nat):Rat):=Rat.mkRat_eq_div _ _
theorem natCast_pos {d:Nat} (h:d≠0):(0:Rat) < ((d:Nat):Rat):=by
 have:((0:Nat):Rat) < ((d:Nat):Rat):=Rat.natCast_lt_natCast.2 (by omega)
 exact this
theorem aee (a b:RV):a.q < b.q↔a.n*b.d < b.n*a.d:=by
 have ha:=natCast_pos a.jS;have hb:=natCast_pos b.jS;have e:a.q < b.q↔(a.n:Rat)*((b.d:Nat):Rat) < (b.n:Rat)*((a.d:Nat):Rat):=by
  rw [yI,yI,Rat.div_lt_iff ha];rw [show (b.n:Rat) / ((b.d:Nat):Rat)*((a.d:Nat):Rat)=((b.n:Rat)*((a.d:Nat):Rat)) / ((b.d:Nat):Rat) by
   rw [Rat.div_def,Rat.div_def]; grind]
  rw [Rat.lt_div_iff hb]
 rw [e,← Rat.intCast_natCast,← Rat.intCast_natCast,← Rat.intCast_mul,← Rat.intCast_mul,Rat.intCast_lt_intCast]
theorem C3 (a b:RV):ba a.q b.q=dO (a.n*b.d) (b.n*a.d):=by
 unfold ba dO;simp only [aee]
theorem acF (i:RV):-i.q=RV.q (!i.1,i.2):=by
 show -mkRat i.n i.d=mkRat (a9 (!i.1) (ab i.2.1)) i.d
 rw [F5,Rat.neg_mkRat]
 rfl
theorem iE (n:Int):((n:Int):Rat)=mkRat n 1:=by
 have h:=Rat.mkRat_self ((n:Int):Rat);rw [Rat.num_intCast,Rat.den_intCast] at h;exact h.symm
theorem Qg {n e:Nat} (k:Int) (hk:k=((8*e:Nat):Int)) (he:e≤7):Int.fdiv (n:Int) (2 ^ min (Int.toNat k) IntKind.i64.bits)=((n / C ^ e:Nat):Int):=by
 subst hk;have e1:min (Int.toNat ((8*e:Nat):Int)) IntKind.i64.bits=8*e:=by
  show min (8*e) 64=8*e
  omega
 rw [e1];have e2:(2:Int) ^ (8*e)=((C ^ e:Nat):Int):=by
  rw [show C=2 ^ 8 from rfl,← Nat.pow_mul,Int.natCast_pow]; rfl
 rw [e2,Int.fdiv_eq_ediv_of_nonneg _ (Int.natCast_nonneg _),Int.natCast_ediv]
theorem acG {n:Nat} (h:n < 72057594037927936):n / C ^ 7=0:=Nat.div_eq_of_lt h
theorem Xq {P d m:Nat} (h:P < C ^ m) (hd:d < 256):P*256+d < C ^ (m+1):=by
 rw [Nat.pow_succ];show _ < C ^ m*256
 omega
theorem Xr {P d m:Nat} (h:C ^ (m - 1)≤P) (hm:1≤m):C ^ (m+1 - 1)≤P*256+d:=by
 rw [show m+1 - 1=m - 1+1 by omega,Nat.pow_succ]
 show C ^ (m - 1)*256≤_
 omega
theorem Mu {P Q D m:Nat} {g:Nat→List Value} (h:P=Q*256+D) (hD:D < 256) (hg:∀ r,r < m→g r=[.int .u8 ((Q / C ^ (m - 1 - r) % C:Nat):Int)]) (r:Nat) (hr:r < m+1) :
  iM g m (fun j=>[[Value.int .u8 ((P % C:Nat):Int)]].getD j []) r=[.int .u8 ((P / C ^ (m+1 - 1 - r) % C:Nat):Int)]:=by
 by_cases h1:r < m
 ·rw [jo h1,hg r h1,show m+1 - 1 - r=(m - 1 - r)+1 by omega,Nat.pow_succ,Nat.mul_comm (C ^ _) C,← Nat.div_div_eq_div_mul,show P / C=Q by rw [h]; show (Q*256+D) / 256=Q; omega]
 ·obtain rfl:r=m:=by omega
  rw [gD (Nat.le_refl _),Nat.sub_self,show r+1 - 1 - r=0 by omega,Nat.pow_zero,Nat.div_one]
  rfl
theorem GJ {n:Int} {d g:Nat} (hn:n≠0) (hd:d≠0) (hg:g=Int.gcd n d):bM (mkRat n d)=.agg ⟨[.bool (decide (n < 0)),.string (nb (n.natAbs / g)),.string (fO (d / g))]⟩:=by
 have nJ:0 < g:=by
  rw [hg]; exact Int.gcd_pos_of_ne_zero_left _ hn
 have e1:(mkRat n d).num=n / (g:Int):=by rw [← Hd n hd,← hg,Int.fdiv_eq_ediv_of_nonneg _ (by omega)]
 have e2:(mkRat n d).den=d / g:=by
  have:=He n hd;rw [← hg,Int.fdiv_eq_ediv_of_nonneg _ (by omega),← Int.natCast_ediv] at this
  exact (Int.ofNat_inj.1 this).symm
 have D0:(g:Int) ∣ n:=by rw [hg]; exact Int.gcd_dvd_left ..
 obtain ⟨q,hq⟩:=D0;have e3:n / (g:Int)=q:=by rw [hq]; exact Int.mul_ediv_cancel_left _ (by omega)
 have e4:n.natAbs / g=q.natAbs:=by
  rw [hq,Int.natAbs_mul,Int.natAbs_natCast]; exact Nat.mul_div_cancel_left _ nJ
 have e5:n < 0↔q < 0:=by
  rw [hq];constructor
  ·intro h;rcases Int.lt_or_le q 0 with J | J
   ·exact J
   ·have:=Int.mul_nonneg (show (0:Int)≤g by omega) J
    omega
  ·intro h; exact Int.mul_neg_of_pos_of_neg (by omega) h
 unfold bM;rw [e1,e2,e3,e4];rw [show decide (n < 0)=decide (q < 0) from by simp only [e5]]
theorem yz (d:Nat):bM (mkRat 0 d)=.agg ⟨[.bool false,.string ⟨#[]⟩,.string ⟨#[]⟩]⟩:=by
 rw [Rat.zero_mkRat];show Value.agg ⟨[.bool false,.string (nb 0),.string (fO 1)]⟩=_
 rw [p8]
 rfl
theorem V3 {a b:Int}:Int.gcd b (a.tmod b)=Int.gcd a b:=by
 show Nat.gcd b.natAbs (a.tmod b).natAbs=Nat.gcd a.natAbs b.natAbs
 rw [Int.natAbs_tmod,Nat.gcd_comm,← Nat.gcd_rec,Nat.gcd_comm]
theorem NY (a:Int) (h:-72057594037927936 < a∧a < 72057594037927936):(if IntKind.i64.wrap (0 - a) > a then IntKind.i64.wrap (0 - a) else a)=((a.natAbs:Nat):Int):=by
 rw [ax (x:=0 - a) (by omega) (by omega)]
 split <;> omega
theorem BC {a g:Nat} (h:a < 72057594037927936):IntKind.i64.wrap (Int.tdiv (a:Int) (g:Int))=((a / g:Nat):Int):=by
 rw [F4]; exact M9 (Nat.lt_of_le_of_lt (Nat.div_le_self _ _) h)
theorem A6 {n:Int} {d g:Nat} (hd:d≠0) (hg:g=Int.gcd n d):(d / g=1↔d=g)∧1≤d / g∧g≠0:=by
 have D0:g ∣ d:=by
  have:((g:Nat):Int) ∣ (d:Int):=by rw [hg]; exact Int.gcd_dvd_right ..
  exact Int.natCast_dvd_natCast.1 this
 have nJ:0 < g:=Nat.pos_of_dvd_of_pos D0 (Nat.pos_of_ne_zero hd);obtain ⟨q,rfl⟩:=D0;rw [Nat.mul_div_cancel_left _ nJ];have hq:q≠0:=by intro e; subst e; exact hd (Nat.mul_zero _)
 refine ⟨⟨fun h=>by rw [h,Nat.mul_one],fun h=>?_⟩,by omega,by omega⟩
 have:g*q=g*1:=by rw [Nat.mul_one]; exact h
 exact Nat.eq_of_mul_eq_mul_left nJ this
theorem r0:-9223372036854775808≤(0:Int)∧(0:Int) < 9223372036854775808:=by decide
theorem r1:-9223372036854775808≤(1:Int)∧(1:Int) < 9223372036854775808:=by decide
theorem uA {n:Int} (h:-9223372036854775808≤n∧n < 9223372036854775808):aT n.natAbs≤8:=gX (Nat.lt_of_le_of_lt (show n.natAbs≤9223372036854775808 by omega) (by decide))
theorem KZ (n e:Nat):n / C ^ e=n / C ^ (e+1)*256+n / C ^ e % 256:=by
 have:=EJ n e;omega
abbrev I4:=(Int × Nat) × (Int × Nat)
def I4.args (i:I4):List Value:=[.int .i64 i.1.1,.int .i64 i.1.2,.int .i64 i.2.1,.int .i64 i.2.2]
def jV (i:Int × Nat):Prop:=(-16777216 < i.1∧i.1 < 16777216)∧0 < i.2∧i.2 < 16777216
def I4.ok (i:I4):Prop:=jV i.1∧jV i.2
def C4:bF:={ ι:=I4,args:=I4.args,pre:=I4.ok,val:=fun i=>bM (mkRat (i.1.1*i.2.2+i.2.1*i.1.2) (i.1.2*i.2.2)) }
def C5:bF:={ ι:=I4,args:=I4.args,pre:=I4.ok,val:=fun i=>bM (mkRat (i.1.1*i.2.1) (i.1.2*i.2.2)) }
def zF:bF:={ ι:=I4,args:=I4.args,pre:=I4.ok,val:=fun i=>.int .i64 (dO (i.1.1*i.2.2) (i.2.1*i.1.2)) }
abbrev FV:=(IV × IV) × (IV × IV)
def FV.args (i:FV):List Value:=[xA i.1.1 i.1.2,xA i.2.1 i.2.2]
def mw (i:IV × IV):Prop:=(i.1.2.size≤17179869184∧i.2.2.size≤17179869184)∧0 < i.2.z
def FV.ok (i:FV):Prop:=mw i.1∧mw i.2
def xB:bF:={ ι:=FV,args:=FV.args,pre:=FV.ok,val:=fun i=>bM (mkRat (i.1.1.z*i.2.2.z+i.2.1.z*i.1.2.z) (i.1.2.z*i.2.2.z).natAbs) }
def xC:bF:={ ι:=FV,args:=FV.args,pre:=FV.ok,val:=fun i=>bM (mkRat (i.1.1.z*i.2.1.z) (i.1.2.z*i.2.2.z).natAbs) }
def xD:bF:={ ι:=FV,args:=FV.args,pre:=FV.ok,val:=fun i=>.int .i64 (dO (i.1.1.z*i.2.2.z) (i.2.1.z*i.1.2.z)) }
theorem I4.bounds {i:I4} (h:i.ok):(-281474976710656 < i.1.1*i.2.2∧i.1.1*i.2.2 < 281474976710656)∧(-281474976710656 < i.2.1*i.1.2∧i.2.1*i.1.2 < 281474976710656)∧(-281474976710656 < i.1.1*i.2.1∧i.1.1*i.2.1 < 281474976710656)∧0 < i.1.2*i.2.2∧i.1.2*i.2.2 < 281474976710656:=by
 obtain ⟨⟨h1,J⟩,h3,h4⟩:=h;refine ⟨KY h1 ⟨by omega,by omega⟩,KY h3 ⟨by omega,by omega⟩,?_,Nat.mul_pos J.1 h4.1,?_⟩
 ·have:(i.1.1*i.2.1).natAbs≤16777215*16777215:=by
   rw [Int.natAbs_mul];exact Nat.mul_le_mul (by omega) (by omega)
  omega
 ·have:i.1.2*i.2.2≤16777215*16777215:=Nat.mul_le_mul (by omega) (by omega)
  omega
theorem EI.gN {x y:Int} {B:Bool} {m:ByteArray} {k l:Nat} (h:EI (x*y) B m) (hx:aT x.natAbs≤k) (hy:aT y.natAbs≤l):m.size≤k+l:=by
 rw [h.size,Int.natAbs_mul];exact Nat.le_trans (wZ _ _) (Nat.add_le_add hx hy)
theorem EI.Ga {x y:Int} {B:Bool} {m:ByteArray} {k:Nat} (h:EI (x+y) B m) (hx:aT x.natAbs≤k) (hy:aT y.natAbs≤k):m.size≤k+1:=by
 rw [h.size];exact Nat.le_trans (iZ (Int.natAbs_add_le _ _)) (NX hx hy)
theorem dH {b:Bool} {s:ByteArray} {k:Nat} (h:s.size≤k):aT (IV.z (b,s)).natAbs≤k:=by
 unfold IV.z;rw [uh];exact Nat.le_trans (jn s) h
theorem RV.jV {i:RV} (h:i.gh):Go.Ae.jV (i.n,i.d):=⟨i.Hf h,i.Hg h⟩
theorem RV.mw {i:RV} (h:i.ok):Go.Ae.mw ((i.1,i.2.1),(false,i.den)):=⟨⟨by have:=h.1; show i.2.1.size≤_; omega,by have:=i.rU; have:=h.2; show i.den.size≤_; omega⟩,by
 show 0 < IV.z (false,i.den)
 rw [RV.jU];have:=i.jS;omega⟩
theorem aab (a b:RV):C4.val ((a.n,a.d),(b.n,b.d))=bM (a.q+b.q):=by rw [HK]; rfl
theorem aac (a b:RV):C5.val ((a.n,a.d),(b.n,b.d))=bM (a.q*b.q):=by rw [HL]; rfl
theorem aad (a b:RV):zF.val ((a.n,a.d),(b.n,b.d))=.int .i64 (ba a.q b.q):=by rw [C3]; rfl
theorem K0 (a b:RV):(IV.z (false,a.den)*IV.z (false,b.den)).natAbs=a.d*b.d:=by
 rw [RV.jU,RV.jU,← Int.natCast_mul,Int.natAbs_natCast]
theorem aae (a b:RV):xB.val (((a.1,a.2.1),(false,a.den)),((b.1,b.2.1),(false,b.den)))=bM (a.q+b.q):=by
 show bM (mkRat (IV.z (a.1,a.2.1)*IV.z (false,b.den)+IV.z (b.1,b.2.1)*IV.z (false,a.den)) (IV.z (false,a.den)*IV.z (false,b.den)).natAbs)=_
 rw [K0,RV.jU,RV.jU,HK]
 rfl
theorem aaf (a b:RV):xC.val (((a.1,a.2.1),(false,a.den)),((b.1,b.2.1),(false,b.den)))=bM (a.q*b.q):=by
 show bM (mkRat (IV.z (a.1,a.2.1)*IV.z (b.1,b.2.1)) (IV.z (false,a.den)*IV.z (false,b.den)).natAbs)=_
 rw [K0,HL]
 rfl
theorem aag (a b:RV):xD.val (((a.1,a.2.1),(false,a.den)),((b.1,b.2.1),(false,b.den)))=.int .i64 (ba a.q b.q):=by
 show Value.int .i64 (dO (IV.z (a.1,a.2.1)*IV.z (false,b.den)) (IV.z (b.1,b.2.1)*IV.z (false,a.den)))=_
 rw [RV.jU,RV.jU,C3]
 rfl
open Go
def iO:bF:={ ι:=RV,args:=fun i=>[i.v],pre:=RV.ok,val:=fun i=>.int .i64 (ba i.q 0) }
def m5:bF:={ ι:=RV,args:=fun i=>[i.v],pre:=RV.ok,val:=fun i=>.int .i64 (if i=RV.of i.q then 0 else 1) }
def lU (n d:Int):Value:=.tuple ⟨[bM (Rat.divInt n d),.int .i64 (if d=0 then 10 else 0)]⟩
def u0:bF:={ ι:=kK,args:=fun i=>[i.1.v,i.2.v],pre:=kK.ok,val:=fun i=>lU i.1.z i.2.z }
def GK:bF:={ ι:=Int × Int,args:=fun i=>[.int .i64 i.1,.int .i64 i.2],pre:=fun i=>(-9223372036854775808≤i.1∧i.1 < 9223372036854775808)∧-9223372036854775808≤i.2∧i.2 < 9223372036854775808,val:=fun i=>lU i.1 i.2 }
theorem aah (i:RV):ba i.q 0=dO i.n 0:=by
 have h:=C3 i (RV.of 0);rw [RV.iE,RV.Qe,RV.Qf] at h;rw [h];show dO (i.n*1) (0*_)=_
 rw [Int.mul_one,Int.zero_mul]
theorem ER (i j:RV):eU [.bool i.1,.string i.2.1,.string i.2.2] [.bool j.1,.string j.2.1,.string j.2.2]=decide (i=j):=by
 obtain ⟨a,b,c⟩:=i;obtain ⟨a',b',c'⟩:=j;simp only [eU,Bool.and_true,qz];by_cases h1:a=a' <;> by_cases J:b=b' <;> by_cases h3:c=c' <;> simp [h1,J,h3]
theorem LA {n d:Int} (h:0 < d):Rat.divInt n d=mkRat n d.natAbs:=by
 obtain ⟨k,rfl⟩:∃ k:Nat,d=k:=⟨d.natAbs,by omega⟩
 rw [Rat.divInt_ofNat,Int.natAbs_natCast]
theorem SR {n d:Int} (h:d < 0):Rat.divInt n d=mkRat (-n) (-d).natAbs:=by
 rw [← Rat.neg_divInt_neg,LA (by omega)]
theorem OM (b:Bool) (s t:ByteArray):RV.q (!b,s,t)=-RV.q (b,s,t):=(acF (b,s,t)).symm
theorem acH:bM 0=.agg ⟨[.bool false,.string ⟨#[]⟩,.string ⟨#[]⟩]⟩:=by
 have:=yz 1
 rwa [Rat.zero_mkRat] at this
def Qh (q:Rat):Rat:=if q < 0 then -q else q
def RV.zG (i:RV):Prop:=60 < i.2.1.size∨60 < i.2.2.size
instance (i:RV):Decidable i.zG:=inferInstanceAs (Decidable (_∨_))
theorem ui {p q:Rat}:ba p q > 0↔q < p:=by
 unfold ba
 split
 ·rename_i h;constructor
  ·intro J; exact absurd J (by decide)
  ·intro J; grind
 ·split
  ·exact ⟨fun _=>by assumption,fun _=>by decide⟩
  ·exact ⟨fun h=>absurd h (by decide),fun h=>by contradiction⟩
theorem Gb {p q:Rat}:ba p q < 0↔p < q:=by
 unfold ba
 split
 ·exact ⟨fun _=>by assumption,fun _=>by decide⟩
 ·split
  ·exact ⟨fun h=>absurd h (by decide),fun h=>by contradiction⟩
  ·exact ⟨fun h=>absurd h (by decide),fun h=>by contradiction⟩
theorem aef:nb 1=⟨#[1]⟩:=by
 rw [xz (n:=1) (by decide) (.inr (by decide))]
 rfl
open Go
abbrev PV:=RV × RV
def PV.cells (p:PV):List Value:=[.bool p.1.1,.string p.1.2.1,.string p.1.2.2,.bool p.2.1,.string p.2.2.1,.string p.2.2.2]
def PV.v (p:PV):Value:=.agg ⟨[.bool p.1.1,.string p.1.2.1,.string p.1.2.2,.bool p.2.1,.string p.2.2.1,.string p.2.2.2]⟩
def mN (x y:Rat):Value:=PV.v (RV.of x,RV.of y)
def RV.sz (k:Nat) (i:RV):Prop:=i.2.1.size≤k∧i.2.2.size≤k
def PV.sz (k:Nat) (p:PV):Prop:=p.1.sz k∧p.2.sz k
theorem RV.b6 {k:Nat} {i:RV} (h:i.sz k) (hk:k≤8589934592):i.ok:=⟨Nat.le_trans h.1 hk,Nat.le_trans h.2 hk⟩
theorem RV.aX {k l:Nat} {i:RV} (h:i.sz k) (hk:k≤l):i.sz l:=⟨Nat.le_trans h.1 hk,Nat.le_trans h.2 hk⟩
theorem PV.aX {k l:Nat} {i:PV} (h:i.sz k) (hk:k≤l):i.sz l:=⟨RV.aX h.1 hk,RV.aX h.2 hk⟩
theorem RV.nj {q:Rat} {k:Nat} (h:QB q k):(RV.of q).sz k:=⟨by show (nb _).size≤_; rw [gP]; exact h.1,Mt h.2⟩
theorem RV.j9 {i:RV} {k:Nat} (h:i.sz k) (hk:1≤k):QB i.q k:=RV.qb h.1 h.2 hk
def lV (a b:Rat):Rat:=if a < b then b else a
def lW (a b:Rat):Rat:=if b < a then b else a
def aeg (a b:PV):Int:=if ba a.1.q b.1.q≠0 then ba a.1.q b.1.q else ba a.2.q b.2.q
abbrev rA:=PV × PV
def vN:Int→Prop:=fun n=>-9223372036854775808≤n∧n < 9223372036854775808
def qS:bF:={ ι:=Int × Int,args:=fun i=>[.int .i64 i.1,.int .i64 i.2],pre:=fun i=>vN i.1∧vN i.2,val:=fun i=>mN (i.1:Rat) (i.2:Rat) }
def JB (i:rA):Prop:=i.1.sz 8589934592∧i.2.sz 8589934592
def nZ:bF:={ ι:=rA,args:=fun i=>[i.1.v,i.2.v],pre:=JB,val:=fun i=>mN (i.1.1.q+i.2.1.q) (i.1.2.q+i.2.2.q) }
def kS:bF:={ ι:=rA,args:=fun i=>[i.1.v,i.2.v],pre:=JB,val:=fun i=>mN (i.1.1.q - i.2.1.q) (i.1.2.q - i.2.2.q) }
def GL:bF:={ ι:=PV × RV,args:=fun i=>[i.1.v,i.2.v],pre:=fun i=>i.1.sz 8589934592∧i.2.sz 8589934592,val:=fun i=>mN (i.1.1.q*i.2.q) (i.1.2.q*i.2.q) }
def aeh (i:rA):Prop:=i.1.sz 1073741824∧i.2.sz 1073741824
def aai (p q:PV):Rat:=p.1.q*q.2.q - p.2.q*q.1.q
def qf:bF:={ ι:=rA,args:=fun i=>[i.1.v,i.2.v],pre:=aeh,val:=fun i=>bM (aai i.1 i.2) }
def PV.canon (p:PV):Prop:=p.1=RV.of p.1.q∧p.2=RV.of p.2.q
instance (p:PV):Decidable p.canon:=inferInstanceAs (Decidable (_∧_))
def kh:bF:={ ι:=PV,args:=fun i=>[i.v],pre:=fun i=>i.sz 8589934592,val:=fun i=>.int .i64 (if i.canon then 0 else 1) }
def pf:bF:={ ι:=rA,args:=fun i=>[i.1.v,i.2.v],pre:=JB,val:=fun i=>.int .i64 (aeg i.1 i.2) }
def aei (i:rA):Prop:=i.1.sz 268435456∧i.2.sz 268435456
def xP:bF:={ ι:=rA × RV,args:=fun i=>[i.1.1.v,i.1.2.v,i.2.v],pre:=fun i=>aei i.1∧i.2.sz 268435456,val:=fun i=>mN (i.1.1.1.q+(i.1.2.1.q - i.1.1.1.q)*i.2.q) (i.1.1.2.q+(i.1.2.2.q - i.1.1.2.q)*i.2.q) }
def PV.zG (p:PV):Prop:=p.1.zG∨p.2.zG
instance (p:PV):Decidable p.zG:=inferInstanceAs (Decidable (_∨_))
theorem TD (p q:PV):eU p.cells q.cells=decide (p=q):=by
 obtain ⟨⟨a,b,c⟩,⟨d,e,f⟩⟩:=p;obtain ⟨⟨a',b',c'⟩,⟨d',e',f'⟩⟩:=q;simp only [PV.cells,eU,Bool.and_true,qz];by_cases h1:a=a' <;> by_cases J:b=b' <;> by_cases h3:c=c' <;> by_cases h4:d=d' <;> by_cases h5:e=e' <;> by_cases h6:f=f' <;> simp [h1,J,h3,h4,h5,h6]
def RV.cells (i:RV):List Value:=[.bool i.1,.string i.2.1,.string i.2.2]
def di (l:List PV):Nat→List Value:=fun r=>(l.getD r ((false,⟨#[]⟩,⟨#[]⟩),(false,⟨#[]⟩,⟨#[]⟩))).cells
theorem BU {o:Bool} {n k:Nat} {g:Nat→List Value} {rows:List (List Value)} (h1:rows.length=n) (J:∀ r,r < n→rows.getD r []=g r) (h3:∀ r,r < n→mH (g r)=true):aD (.flat false n k g) (.aS o k rows) :=
 ⟨(fun h=>by cases h),rfl,by show n≤rows.length; omega,fun r hr=>by
  show g r=rows.getD r []
  exact (J r hr).symm,fun r hr v hv=>dE (h3 r hr) v hv⟩
theorem LB (l:List PV) (r:Nat):mH (di l r)=true:=rfl
open Go
theorem rS {l:List PV} {i:Nat} (h:i < l.length):∃ p,l[i]?=some p∧p∈l∧di l i=p.cells:=by
 refine ⟨l[i],List.getElem?_eq_getElem h,List.getElem_mem h,?_⟩;unfold di;rw [List.getD_eq_getElem?_getD,List.getElem?_eq_getElem h]
 rfl
theorem V4 {p q:Rat}:ba p q=1↔q < p:=by
 unfold ba
 split
 ·rename_i h;exact ⟨fun J=>absurd J (by decide),fun J=>by grind⟩
 ·split
  ·exact ⟨fun _=>by assumption,fun _=>rfl⟩
  ·exact ⟨fun h=>absurd h (by decide),fun h=>by contradiction⟩
theorem UU {p q:Rat}:ba p q=-1↔p < q:=by
 unfold ba
 split
 ·exact ⟨fun _=>by assumption,fun _=>rfl⟩
 ·split
  ·exact ⟨fun h=>absurd h (by decide),fun h=>by contradiction⟩
  ·exact ⟨fun h=>absurd h (by decide),fun h=>by contradiction⟩
theorem QB.max {p q:Rat} {k:Nat} (hp:QB p k) (hq:QB q k):QB (lV p q) k:=by
 unfold lV; split <;> assumption
theorem QB.min {p q:Rat} {k:Nat} (hp:QB p k) (hq:QB q k):QB (lW p q) k:=by
 unfold lW; split <;> assumption
theorem QB.abs {p:Rat} {k:Nat} (hp:QB p k):QB (Qh p) k:=by
 unfold Qh; split
 ·exact hp.neg
 ·exact hp
abbrev XV:=PV × PV
def XV.v (b:XV):Value:=.agg ⟨[.bool b.1.1.1,.string b.1.1.2.1,.string b.1.1.2.2,.bool b.1.2.1,.string b.1.2.2.1,.string b.1.2.2.2,.bool b.2.1.1,.string b.2.1.2.1,.string b.2.1.2.2,.bool b.2.2.1,.string b.2.2.2.1,.string b.2.2.2.2]⟩
def XV.cells (b:XV):List Value:=[.bool b.1.1.1,.string b.1.1.2.1,.string b.1.1.2.2,.bool b.1.2.1,.string b.1.2.2.1,.string b.1.2.2.2,.bool b.2.1.1,.string b.2.1.2.1,.string b.2.1.2.2,.bool b.2.2.1,.string b.2.2.2.1,.string b.2.2.2.2]
def Ps (b:XV) (p:PV):Prop:=b.1.1.q≤p.1.q∧p.1.q≤b.2.1.q∧b.1.2.q≤p.2.q∧p.2.q≤b.2.2.q
instance (b:XV) (p:PV):Decidable (Ps b p):=inferInstanceAs (Decidable (_∧_∧_∧_))
def V5:bF:={ ι:=XV × PV,args:=fun i=>[i.1.v,i.2.v],pre:=fun i=>(i.1.1.sz 268435456∧i.1.2.sz 268435456)∧i.2.sz 268435456,val:=fun i=>.bool (decide (Ps i.1 i.2)) }
theorem GM {p q:Rat}:ba p q≤0↔p≤q:=by
 have:=ui (p:=p) (q:=q);constructor
 ·intro h; have:¬ q < p:=fun e=>by have:=this.2 e; omega
  grind
 ·intro h; have:¬ ba p q > 0:=fun e=>by have:=this.1 e; grind
  omega
theorem nO {p q:Rat}:ba p q ≥ 0↔q≤p:=by
 have:=Gb (p:=p) (q:=q);constructor
 ·intro h; have:¬ p < q:=fun e=>by have:=this.2 e; omega
  grind
 ·intro h; have:¬ ba p q < 0:=fun e=>by have:=this.1 e; grind
  omega
open Go
def qK:bF:={ ι:=nI,args:=fun i=>[i.1.v,i.2.v],pre:=nI.ok,val:=fun i=>.tuple ⟨[bM (i.1.q / i.2.q),.int .i64 (if i.2.q=0 then 10 else 0)]⟩ }
theorem TE (b:RV):b.q=0↔b.n=0:=by
 have hb:=natCast_pos b.jS;rw [yI,Rat.div_def];constructor
 ·intro h;rcases Rat.mul_eq_zero.1 h with h | h
  ·exact_mod_cast h
  ·exfalso;have J:((b.d:Nat):Rat)*((b.d:Nat):Rat)⁻¹=1:=Rat.mul_inv_cancel _ (by grind)
   rw [h] at J;grind
 ·intro h;rw [h];simp
theorem acI (a b:RV):lU (a.n*b.d) (a.d*b.n)=.tuple ⟨[bM (a.q / b.q),.int .i64 (if b.q=0 then 10 else 0)]⟩:=by
 have ha:=natCast_pos a.jS;have hb:=natCast_pos b.jS;have e1:Rat.divInt (a.n*b.d) (a.d*b.n)=a.q / b.q:=by
  rw [Rat.divInt_eq_div,yI a,yI b,Rat.intCast_mul,Rat.intCast_mul,Rat.intCast_natCast,Rat.intCast_natCast];by_cases h:(b.n:Rat)=0
  ·rw [h]; simp [Rat.div_def]
  ·grind
 have e2:((a.d:Int)*b.n=0)↔b.q=0:=by
  rw [TE];constructor
  ·intro h;rcases Int.mul_eq_zero.1 h with h | h
   ·have:=a.jS; omega
   ·exact h
  ·intro h; rw [h]; simp
 unfold lU;rw [e1];simp only [e2]
open Go
theorem Rg (i:RV):eU [.bool i.1,.string i.2.1,.string i.2.2] [.bool i.1,.string i.2.1,.string i.2.2]=true:=by
 rw [ER i i]; exact decide_eq_true rfl
instance (n:Int):Decidable (vN n):=inferInstanceAs (Decidable (_∧_))
def ON:bF:={ ι:=Unit,args:=fun _=>[],pre:=fun _=>True,val:=fun _=>.bool true }
def dp:RV:=(false,⟨#[]⟩,⟨#[]⟩)
theorem uj (k:Nat):dp.sz k:=⟨Nat.zero_le _,Nat.zero_le _⟩
theorem zg {n:Int} (h:n.natAbs < 256):QB (n:Rat) 1:=by
 have e1:(n:Rat).num=n:=Rat.num_intCast n;have e2:(n:Rat).den=1:=Rat.den_intCast n;refine ⟨?_,?_⟩
 ·rw [e1]; exact gX (show n.natAbs < C ^ 1 from h)
 ·rw [e2]; exact gX (show 1 < C ^ 1 by decide)
open Go
abbrev PL:=Option (List PV × Nat)
def PL.val:PL→Value
 | none=>.slice none 0 0
 | some i=>.slice (some ⟨0,0,none⟩) i.1.length i.2
def PL.ah:PL→List ai
 | none=>[]
 | some i=>[.flat false i.1.length 6 (di i.1)]
def PL.list:PL→List PV
 | none=>[]
 | some i=>i.1
def PL.ok (i:PL):Prop:=i.list.length≤9223372036854775807
def ko:XV:=((dp,dp),(dp,dp))
theorem Xs:dp.q=0:=by
 show mkRat (a9 false (ab ⟨#[]⟩)) _=0
 exact Rat.zero_mkRat _
open Go
theorem AB (b:XV):eU [.bool b.1.1.1,.string b.1.1.2.1,.string b.1.1.2.2,.bool b.1.2.1,.string b.1.2.2.1,.string b.1.2.2.2,.bool b.2.1.1,.string b.2.1.2.1,.string b.2.1.2.2,.bool b.2.2.1,.string b.2.2.2.1,.string b.2.2.2.2] [.bool b.1.1.1,.string b.1.1.2.1,.string b.1.1.2.2,.bool b.1.2.1,.string b.1.2.2.1,.string b.1.2.2.2,.bool b.2.1.1,.string b.2.1.2.1,.string b.2.1.2.2,.bool b.2.2.1,.string b.2.2.2.1,.string b.2.2.2.2]=true:=by
 simp [eU]
open Go
structure Bounds (l:List PV) (X:XV):Prop where
 inb:∀ p∈l,V5.val (X,p)=.bool true
 sz:X.1.sz 268435456∧X.2.sz 268435456
 c1:kh.val X.1=.int .i64 0
 c2:kh.val X.2=.int .i64 0
 l1:∃ p∈l,p.1.q=X.1.1.q
 l2:∃ p∈l,p.1.q=X.2.1.q
 l3:∃ p∈l,p.2.q=X.1.2.q
 l4:∃ p∈l,p.2.q=X.2.2.q
theorem yA {p q:Rat}:ba p q=0↔p=q:=by
 have h1:=GM (p:=p) (q:=q);have J:=nO (p:=p) (q:=q);constructor
 ·intro h; have:=h1.1 (by omega); have:=J.1 (by omega); grind
 ·intro h; have:=h1.2 (by grind); have:=J.2 (by grind); omega
theorem aD.pW {o o':Bool} {n e:Nat} {g f:Nat→List Value} (h:o=true→o'=true) (hf:∀ r,r < n→f r=g r) (hs:∀ r,r < n→mH (g r)=true):aD (.flat o n e g) (.flat o' n e f) :=
 ⟨fun ho=>⟨h ho,rfl⟩,rfl,Nat.le_refl _,fun r hr=>(hf r hr).symm,fun r hr v hv=>dE (hs r hr) v hv⟩
open Go
abbrev Q2:=Rat × Rat
def PV.p (a:PV):Q2:=(a.1.q,a.2.q)
def bP (p:Q2):PV:=(RV.of p.1,RV.of p.2)
theorem gr (p:Q2):(bP p).p=p:=by
 show ((RV.of p.1).q,(RV.of p.2).q)=p
 rw [RV.iE,RV.iE]
def sU (b a:Q2):Q2:=(b.1 - a.1,b.2 - a.2)
def Ds (u v:Q2):Rat:=u.1*v.1+u.2*v.2
def nT (u v:Q2):Rat:=u.1*v.2 - u.2*v.1
theorem NZ (b a:PV):kS.val (b,a)=(bP (sU b.p a.p)).v:=rfl
theorem UW (u v:PV):qf.val (u,v)=(RV.of (nT u.p v.p)).v:=rfl
theorem V6 (r:RV):iO.val r=.int .i64 (ba r.q 0):=rfl
def Q2.sz (k:Nat) (p:Q2):Prop:=QB p.1 k∧QB p.2 k
theorem PV.cV {a:PV} {k:Nat} (h:a.sz k) (hk:1≤k):Q2.sz k a.p:=⟨RV.j9 h.1 hk,RV.j9 h.2 hk⟩
theorem nU {p:Q2} {k l:Nat} (h:Q2.sz k p) (hl:k≤l):(bP p).sz l:=⟨RV.aX (RV.nj h.1) hl,RV.aX (RV.nj h.2) hl⟩
theorem oZ {a b:Q2} {k l:Nat} (ha:Q2.sz k a) (hb:Q2.sz l b):Q2.sz (k+l+1) (sU a b):=⟨ha.1.sub hb.1,ha.2.sub hb.2⟩
theorem aaj {a b:Q2} {k l:Nat} (ha:Q2.sz k a) (hb:Q2.sz l b):QB (Ds a b) (k+l+(k+l)+1):=(ha.1.mul hb.1).add (ha.2.mul hb.2)
theorem yJ {a b:Q2} {k l:Nat} (ha:Q2.sz k a) (hb:Q2.sz l b):QB (nT a b) (k+l+(k+l)+1):=(ha.1.mul hb.2).sub (ha.2.mul hb.1)
theorem aak {q:Rat} {k:Nat} (h:QB q k) (hk:k≤8589934592):(RV.of q).ok:=RV.sH (h.mono hk)
def ao (a b c:Q2):Rat:=nT (sU b a) (sU c a)
abbrev x7:=PV × PV × PV
def Dt (i:x7):Prop:=i.1.sz 1048576∧i.2.1.sz 1048576∧i.2.2.sz 1048576
def nP:bF:={ ι:=x7,args:=fun i=>[i.1.v,i.2.1.v,i.2.2.v],pre:=Dt,val:=fun i=>.int .i64 (ba (ao i.1.p i.2.1.p i.2.2.p) 0) }
def Du (a b p:Q2):Prop:=ao a b p=0∧Ds (sU a p) (sU b p)≤0
instance (a b p:Q2):Decidable (Du a b p):=inferInstanceAs (Decidable (_∧_))
def lM (v:Q2):Int:=if v.1=0∧v.2=0 then 0 else if 0 < v.2∨v.2=0∧0 < v.1 then 1 else 2
def sV (u v:Q2):Int:=if lM u < lM v then -1 else if lM v < lM u then 1 else -ba (nT u v) 0
abbrev TV:=PV × PV × PV
def TV.v (t:TV):Value:=.agg ⟨t.1.cells++(t.2.1.cells++t.2.2.cells)⟩
def xE (u p:Q2):Q2:=(Ds u p,nT u p)
def aej (u v w:Q2):Prop:=lM u≠0∧lM v≠0∧lM w≠0∧sV (xE u w) (xE u u)≠0∧(sV (xE u v) (xE u u)=0∨sV (xE u w) (xE u v) < 0)
instance (u v w:Q2):Decidable (aej u v w):=inferInstanceAs (Decidable (_∧_))
open Go
def fR (a b:Q2):Int:=if ba a.1 b.1≠0 then ba a.1 b.1 else ba a.2 b.2
theorem N0 {p q:Rat} (h:p < q):ba p q=-1:=UU.2 h
theorem N1 {p q:Rat} (h:q < p):ba p q=1:=V4.2 h
theorem GN {p q:Rat} (h:p=q):ba p q=0:=yA.2 h
theorem Rh (q:Rat):q < 0∨q=0∨0 < q:=by
 by_cases h:q < 0
 ·exact .inl h
 ·by_cases J:0 < q
  ·exact .inr (.inr J)
  ·exact .inr (.inl (by grind))
theorem Br (q:Rat):(q < 0∧ba q 0=-1)∨(q=0∧ba q 0=0)∨(0 < q∧ba q 0=1):=by
 rcases Rh q with h | h | h
 ·exact .inl ⟨h,N0 h⟩
 ·exact .inr (.inl ⟨h,GN h⟩)
 ·exact .inr (.inr ⟨h,N1 h⟩)
theorem Gc (p q:Rat):ba p q=ba (p - q) 0:=by
 rcases Br (p - q) with ⟨h1,J⟩ | ⟨h1,J⟩ | ⟨h1,J⟩ <;> rw [J]
 ·exact N0 (by grind)
 ·exact GN (by grind)
 ·exact N1 (by grind)
theorem UX {a b:Q2}:fR a b=0↔a.1=b.1∧a.2=b.2:=by
 unfold fR;by_cases h:ba a.1 b.1=0
 ·rw [if_neg (by simp [h]),yA]
  exact ⟨fun J=>⟨yA.1 h,J⟩,fun J=>J.2⟩
 ·rw [if_pos h];exact ⟨fun J=>absurd J h,fun J=>yA.2 J.1⟩
theorem pU (p q:Rat):ba p q=-1∨ba p q=0∨ba p q=1:=by
 unfold ba; split
 ·exact .inl rfl
 ·split
  ·exact .inr (.inr rfl)
  ·exact .inr (.inl rfl)
theorem LC (a b:Q2):fR a b=-1∨fR a b=0∨fR a b=1:=by
 unfold fR; split <;> exact pU _ _
open Go
def oa (a b:Q2):Q2:=(a.1+b.1,a.2+b.2)
theorem uL {a b:Q2} {k l:Nat} (ha:Q2.sz k a) (hb:Q2.sz l b):Q2.sz (k+l+1) (oa a b):=⟨ha.1.add hb.1,ha.2.add hb.2⟩
open Go
def H1 (u:Q2):Prop:=0 < u.2∨u.2=0∧0 < u.1
def H2 (u:Q2):Prop:=u.2 < 0∨u.2=0∧u.1 < 0
def D1 (k:Rat) (u:Q2):Q2:=(u.1*k,u.2*k)
open Go
theorem lN {x:Q2} {k:Nat} (h:Q2.sz k x):∃ u:PV,(bP x).v=u.v∧u.p=x∧u.sz k∧Q2.sz k u.p :=
 ⟨bP x,rfl,gr x,nU h (Nat.le_refl _),by rw [gr]; exact h⟩
theorem g0 {q:Rat} {k:Nat} (h:QB q k):∃ r:RV,(RV.of q).v=r.v∧r.q=q∧r.sz k∧QB r.q k :=
 ⟨RV.of q,rfl,RV.iE q,RV.nj h,by rw [RV.iE]; exact h⟩
theorem RV.acJ {a b:RV} (h:a.v=b.v):a.1=b.1∧a.2.1=b.2.1∧a.2.2=b.2.2:=by
 have h:Value.agg ⟨[.bool a.1,.string a.2.1,.string a.2.2]⟩=Value.agg ⟨[.bool b.1,.string b.2.1,.string b.2.2]⟩:=h;simp only [Value.agg.injEq,Array.mk.injEq,List.cons.injEq,Value.bool.injEq,Value.string.injEq] at h;exact ⟨h.1,h.2.1,h.2.2.1⟩
theorem RV.j3 {a b:RV} (h:a.v=b.v):a=b:=by
 obtain ⟨h1,J,h3⟩:=RV.acJ h;exact Prod.ext h1 (Prod.ext J h3)
theorem PV.j3 {a b:PV} (h:a.v=b.v):a=b:=by
 have h:Value.agg ⟨[.bool a.1.1,.string a.1.2.1,.string a.1.2.2,.bool a.2.1,.string a.2.2.1,.string a.2.2.2]⟩=Value.agg ⟨[.bool b.1.1,.string b.1.2.1,.string b.1.2.2,.bool b.2.1,.string b.2.2.1,.string b.2.2.2]⟩:=h;simp only [Value.agg.injEq,Array.mk.injEq,List.cons.injEq,Value.bool.injEq,Value.string.injEq] at h;obtain ⟨h1,J,h3,h4,h5,h6,_⟩:=h;exact Prod.ext (Prod.ext h1 (Prod.ext J h3)) (Prod.ext h4 (Prod.ext h5 h6))
theorem fc (n:Int):∃ m:Int,Value.int .i64 n=Value.int .i64 m∧m=n:=⟨n,rfl,rfl⟩
theorem xl {x:Q2} {k:Nat} (h:Q2.sz k x):∃ u:PV,u=bP x∧(bP x).v=u.v∧u.p=x∧u.sz k∧Q2.sz k u.p :=
 ⟨bP x,rfl,rfl,gr x,nU h (Nat.le_refl _),by rw [gr]; exact h⟩
theorem Hh {q:Rat} {k:Nat} (h:QB q k):∃ r:RV,r=RV.of q∧(RV.of q).v=r.v∧r.q=q∧r.sz k∧QB r.q k :=
 ⟨RV.of q,rfl,rfl,RV.iE q,RV.nj h,by rw [RV.iE]; exact h⟩
theorem vn (a b:Int) (ha:a.natAbs < 256) (hb:b.natAbs < 256):Q2.sz 1 ((a:Rat),(b:Rat)) :=
 ⟨zg ha,zg hb⟩
theorem Dv (p q:PV):eU [.bool p.1.1,.string p.1.2.1,.string p.1.2.2,.bool p.2.1,.string p.2.2.1,.string p.2.2.2] [.bool q.1.1,.string q.1.2.1,.string q.1.2.2,.bool q.2.1,.string q.2.2.1,.string q.2.2.2]=decide (p=q):=TD p q
theorem QB.of_int {n:Int} {k:Nat} (h:aT n.natAbs≤k) (hk:1≤k):QB (n:Rat) k:=⟨by rw [Rat.num_intCast]; exact h,by rw [Rat.den_intCast]; exact Nat.le_trans (gX (show 1 < C ^ 1 by decide)) hk⟩
theorem QB.inv {q:Rat} {k:Nat} (h:QB q k) (hk:1≤k):QB q⁻¹ k:=by
 by_cases hq:q=0
 ·subst hq;have:(0:Rat)⁻¹=0:=by simp
  rw [this]; exact h
 ·have e:q⁻¹=Rat.divInt q.den q.num:=Rat.inv_def q;rw [e];have hn:q.num≠0:=fun e=>hq (Rat.num_eq_zero.1 e)
  rcases Int.lt_or_gt_of_ne hn with h1 | h1
  ·have e2:Rat.divInt q.den q.num=mkRat (-(q.den:Int)) q.num.natAbs:=by
    obtain ⟨m,hm⟩:∃ m:Nat,q.num=-(m:Int):=⟨q.num.natAbs,by omega⟩
    rw [hm];rw [Rat.divInt_neg'];simp
   rw [e2];exact QB.mk (by omega) (by rw [Int.natAbs_neg,Int.natAbs_natCast]; exact h.2) h.1
  ·have e2:Rat.divInt q.den q.num=mkRat (q.den:Int) q.num.natAbs:=by
    obtain ⟨m,hm⟩:∃ m:Nat,q.num=(m:Int):=⟨q.num.natAbs,by omega⟩
    rw [hm];simp
   rw [e2];exact QB.mk (by omega) (by rw [Int.natAbs_natCast]; exact h.2) h.1
theorem QB.div {p q:Rat} {k l:Nat} (hp:QB p k) (hq:QB q l) (hl:1≤l):QB (p / q) (k+l):=by
 rw [Rat.div_def]; exact hp.mul (hq.inv hl)
def atR (a b:Q2) (t:Rat):Q2:=(a.1+(b.1 - a.1)*t,a.2+(b.2 - a.2)*t)
theorem zH {a b:Q2} {t:Rat} {k l m:Nat} (ha:Q2.sz k a) (hb:Q2.sz l b) (ht:QB t m):Q2.sz (k+(l+k+1+m)+1) (atR a b t) :=
 ⟨ha.1.add ((hb.1.sub ha.1).mul ht),ha.2.add ((hb.2.sub ha.2).mul ht)⟩
open Go
abbrev R3:=RV × RV × RV
def R3.v (i:R3):Value:=.agg ⟨[.bool i.1.1,.string i.1.2.1,.string i.1.2.2,.bool i.2.1.1,.string i.2.1.2.1,.string i.2.1.2.2,.bool i.2.2.1,.string i.2.2.2.1,.string i.2.2.2.2]⟩
def R3.get (i:R3):Nat→RV | 0=>i.1 | 1=>i.2.1 | _=>i.2.2
def R3.sz (k:Nat) (i:R3):Prop:=i.1.sz k∧i.2.1.sz k∧i.2.2.sz k
def R3.rows (i:R3):Nat→List Value:=fun r=>(i.get r).cells
def R3.cells (i:R3):List Value:=[.bool i.1.1,.string i.1.2.1,.string i.1.2.2,.bool i.2.1.1,.string i.2.1.2.1,.string i.2.1.2.2,.bool i.2.2.1,.string i.2.2.2.1,.string i.2.2.2.2]
theorem R3.aI (i:R3):aD (.flat false 1 9 (fun _=>i.cells)) (.aS true 9 [i.cells]) :=
 BU rfl (fun r hr=>by
  have:r=0:=by omega
  subst this; rfl) (fun r hr=>rfl)
theorem xm (p:PV):aD (.flat false 1 6 (fun _=>p.cells)) (.aS true 6 [p.cells]) :=
 BU rfl (fun r hr=>by
  have:r=0:=by omega
  subst this; rfl) (fun r hr=>rfl)
def TV.w (t:TV):Value:=.agg ⟨[.bool t.1.1.1,.string t.1.1.2.1,.string t.1.1.2.2,.bool t.1.2.1,.string t.1.2.2.1,.string t.1.2.2.2,.bool t.2.1.1.1,.string t.2.1.1.2.1,.string t.2.1.1.2.2,.bool t.2.1.2.1,.string t.2.1.2.2.1,.string t.2.1.2.2.2,.bool t.2.2.1.1,.string t.2.2.1.2.1,.string t.2.2.1.2.2,.bool t.2.2.2.1,.string t.2.2.2.2.1,.string t.2.2.2.2.2]⟩
def sg (q:Rat):Int:=ba q 0
def inR (a b c p:Q2):Prop:=sg (ao a b c)≠0∧sg (ao a b p)=sg (ao a b c)∧sg (ao b c p)=sg (ao a b c)∧sg (ao c a p)=sg (ao a b c)
instance (a b c p:Q2):Decidable (inR a b c p):=inferInstanceAs (Decidable (_∧_))
def onR (a b c p:Q2):Prop:=Du a b p∨Du b c p∨Du c a p
instance (a b c p:Q2):Decidable (onR a b c p):=inferInstanceAs (Decidable (_∨_))
def aal (u v w:Q2):Prop:=(lM u≠0∧lM v≠0∧lM w≠0)∧if sV u v < 0 then sV u w < 0∧sV w v < 0 else sV u w < 0∨sV w v < 0
instance (u v w:Q2):Decidable (aal u v w):=inferInstanceAs (Decidable (_∧_))
def hs (u:Q2):Int:=if lM u=2 then -1 else 1
structure Tri (u v w:Q2) (a b c x y z:Int):Prop where
 hu:lM u=a
 hv:lM v=b
 hw:lM w=c
 ra:a=1∨a=2
 rb:b=1∨b=2
 rc:c=1∨c=2
 uv:sg (nT u v)=x
 uw:sg (nT u w)=y
 wv:sg (nT w v)=z
open Go
instance (k:Nat) (p:PV):Decidable (p.sz k):=inferInstanceAs (Decidable ((_∧_)∧(_∧_)))
def uM (k:Nat) (l:List PV):Bool:=l.any fun p=>decide (¬ p.sz k)
theorem ES {k:Nat} {l:List PV} {p:PV} (h:p∈l) (hg:¬ p.sz k):uM k l=true:=List.any_eq_true.2 ⟨p,h,decide_eq_true hg⟩
theorem Sn {k:Nat} {l:List PV} (h:uM k l=false):∀ p∈l,p.sz k:=fun p hp=>by
 refine Classical.byContradiction fun hg=>?_
 rw [ES hp hg] at h; cases h
def uB (k:Nat) (l:List PV) (i:Nat):Prop:=∀ p∈l.take i,p.sz k
theorem Kn (k:Nat) (l:List PV):uB k l 0:=fun p hp=>by simp at hp
theorem KD {k:Nat} {l:List PV} {i:Nat} {p:PV} (h:uB k l i) (hp:l[i]?=some p) (hg:p.sz k):uB k l (i+1):=fun q hq=>by
 rw [List.take_add_one,hp] at hq;simp only [Option.toList_some,List.mem_append,List.mem_singleton] at hq;rcases hq with hq | rfl
 ·exact h q hq
 ·exact hg
theorem K1 {k:Nat} {l:List PV} (h:uB k l l.length):uM k l=false:=by
 cases e:uM k l
 ·rfl
 ·obtain ⟨p,hp,hg⟩:=List.any_eq_true.1 e;rw [uB,List.take_length] at h;exact absurd (h p hp) (of_decide_eq_true hg)
theorem Xt (l:List PV):aD (.flat false l.length 6 (di l)) (.aS true 6 (l.map PV.cells)) :=
 BU (by simp) (fun r hr=>by
  unfold di;rw [List.getD_eq_getElem?_getD,List.getD_eq_getElem?_getD,List.getElem?_map,List.getElem?_eq_getElem hr]
  rfl) (fun r hr=>rfl)
def PL.u6 (i:PL) (k:Nat):Value:=match i with | none=>.slice none 0 0 | some j=>.slice (some ⟨k,0,none⟩) j.1.length j.2
abbrev me:=PL × PL
def fN:aY:={ ι:=me,args:=fun i=>[i.1.val,i.2.u6 i.1.ah.length],ah:=fun i=>i.1.ah++i.2.ah,pre:=fun i=>i.1.list.length≤1099511627776∧i.2.list.length≤1099511627776,val:=fun i=>.bool (decide (i.1.list=i.2.list)),new:=fun _=>none }
def vo (l m:List PV) (i:Nat):Prop:=l.take i=m.take i
theorem TF (l m:List PV):vo l m 0:=rfl
theorem UY {l m:List PV} {i:Nat} {p q:PV} (h:vo l m i) (hp:l[i]?=some p) (hq:m[i]?=some q) (e:p=q):vo l m (i+1):=by
 unfold vo at *;rw [List.take_add_one,List.take_add_one,hp,hq,h,e]
theorem V7 {l m:List PV} (h:vo l m l.length) (hl:l.length=m.length):l=m:=by
 unfold vo at h;rw [List.take_length] at h;rw [h,hl,List.take_length]
theorem acK {l m:List PV} {i:Nat} {p q:PV} (hp:l[i]?=some p) (hq:m[i]?=some q) (e:p≠q):l≠m:=fun h=>by
 subst h; rw [hp] at hq; exact e (Option.some.inj hq)
section
variable (f:PV→PV→Int)
def sW (x:PV):List PV→List PV
 | []=>[x]
 | y::r=>if f x y < 0 then y::sW x r else x::y::r
def xQ (l:List PV):List PV:=l.foldl (fun a x=>sW f x a) []
theorem UZ {l:List PV} {x:PV}:xQ f (l++[x])=sW f x (xQ f l):=by unfold xQ; rw [List.foldl_append]; rfl
end
structure aeJ (f:PV→PV→Int):Prop where
 aeT:∀ x y,f y x=-f x y
 trans:∀ x y z,f x y≤0→f y z≤0→f x z≤0
def Pt (f:PV→PV→Int) (l:List PV) (i:Nat):List PV:=(xQ f (l.take i)).reverse++l.drop i
structure AD (f:PV→PV→Int) (l:List PV) (i j:Nat) (x:PV) (r B L:List PV):Prop where
 at_:l[i]?=some x
 acc:xQ f (l.take i)=B++r
 ins:sW f x (xQ f (l.take i))=B++sW f x r
 len:r.length=j
 all:L=r.reverse++x::(B.reverse++l.drop (i+1))
theorem AD.step {f:PV→PV→Int} {l:List PV} {i j:Nat} {x y:PV} {r B L:List PV} (h:AD f l i j x (y::r) B L) (hf:f x y < 0) :
  AD f l i (j - 1) x r (B++[y]) (r.reverse++x::y::(B.reverse++l.drop (i+1))):=by
 refine ⟨h.at_,by rw [h.acc]; simp,?_,?_,by simp⟩
 ·have e:sW f x (y::r)=y::sW f x r:=by
   show (if f x y < 0 then _ else _)=_
   rw [if_pos hf]
  rw [h.ins,e];simp
 ·have:=h.len; simp at this; omega
theorem AD.done {f:PV→PV→Int} {l:List PV} {i j:Nat} {x:PV} {r B L:List PV} (h:AD f l i j x r B L) (hs:sW f x r=x::r):L=Pt f l (i+1):=by
 rw [h.all];unfold Pt;rw [List.take_add_one,h.at_];simp only [Option.toList_some];rw [UZ,h.ins,hs];simp
open Go
open Go
open Go
open Go
open Go
abbrev Q3:=Rat × Rat × Rat
def R3.q (l:R3):Q3:=(l.1.q,l.2.1.q,l.2.2.q)
def Q3.sz (k:Nat) (l:Q3):Prop:=QB l.1 k∧QB l.2.1 k∧QB l.2.2 k
theorem R3.aX {l:R3} {k m:Nat} (h:l.sz k) (hk:k≤m):l.sz m:=⟨RV.aX h.1 hk,RV.aX h.2.1 hk,RV.aX h.2.2 hk⟩
theorem Q3.mono {l:Q3} {k m:Nat} (h:Q3.sz k l) (hk:k≤m):Q3.sz m l:=⟨h.1.mono hk,h.2.1.mono hk,h.2.2.mono hk⟩
theorem Q2.mono {l:Q2} {k m:Nat} (h:Q2.sz k l) (hk:k≤m):Q2.sz m l:=⟨h.1.mono hk,h.2.mono hk⟩
def zI:R3:=(dp,dp,dp)
def rB (l:Q3):Q2:=(l.1,l.2.1)
def R3.n (l:R3):PV:=(l.1,l.2.1)
def aq (l:Q3) (p:Q2):Rat:=Ds (rB l) p - l.2.2
def mR (l:Q3):Prop:=¬ (l.1=0∧l.2.1=0)
instance (l:Q3):Decidable (mR l):=inferInstanceAs (Decidable (¬ (_∧_)))
def dP (p q:Q2):Q3:=(p.2 - q.2,q.1 - p.1,(p.2 - q.2)*p.1+(q.1 - p.1)*p.2)
def qT (l m:Q3):Rat:=nT (rB l) (rB m)
def Iw (l m:Q3):Q2:=((l.2.2*m.2.1 - l.2.1*m.2.2) / qT l m,(l.1*m.2.2 - l.2.2*m.1) / qT l m)
def C6:PV:=(dp,dp)
def LE.v (x:R3 × Int):Value:=.tuple ⟨[x.1.v,.int .i64 x.2]⟩
def PE.v (x:PV × Int):Value:=.tuple ⟨[x.1.v,.int .i64 x.2]⟩
def ZE.v (x:Int × Int):Value:=.tuple ⟨[.int .i64 x.1,.int .i64 x.2]⟩
def RV.pr (i:RV):Prop:=20 < i.2.1.size∨20 < i.2.2.size
instance (i:RV):Decidable i.pr:=inferInstanceAs (Decidable (_∨_))
def R3.pr (l:R3):Prop:=l.1.pr∨l.2.1.pr∨l.2.2.pr
instance (l:R3):Decidable l.pr:=inferInstanceAs (Decidable (_∨_∨_))
def PV.pr (p:PV):Prop:=p.1.pr∨p.2.pr
instance (l:PV):Decidable l.pr:=inferInstanceAs (Decidable (_∨_))
open Go
theorem V8 (k:Nat):zI.sz k:=⟨uj _,uj _,uj _⟩
theorem V9 (k:Nat):C6.sz k:=⟨uj _,uj _⟩
theorem yK {k:Nat}:QB dp.q (k+1):=RV.j9 (uj _) (by omega)
theorem Wa (k:Nat):Q3.sz (k+1) zI.q:=⟨yK,yK,yK⟩
theorem Wb (k:Nat):Q2.sz (k+1) C6.p:=⟨yK,yK⟩
theorem OO {p q:Q2} {k l:Nat} (hp:Q2.sz k p) (hq:Q2.sz l q):Q3.sz (k+l+1+k+(k+l+1+k)+1) (dP p q) :=
 ⟨(hp.2.sub hq.2).mono (by omega),(hq.1.sub hp.1).mono (by omega),(((hp.2.sub hq.2).mul hp.1).add (((hq.1.sub hp.1).mono (show l+k+1≤k+l+1 by omega)).mul hp.2)).mono (by omega)⟩
theorem OP {l:Q3} {p:Q2} {k m:Nat} (hl:Q3.sz k l) (hp:Q2.sz m p):QB (aq l p) (k+m+(k+m)+1+k+1):=(aaj (a:=rB l) ⟨hl.1,hl.2.1⟩ hp).sub hl.2.2
theorem OQ {l:Q3} {k:Nat} (hl:Q3.sz k l):Q2.sz k (rB l):=⟨hl.1,hl.2.1⟩
theorem OR {l m:Q3} {k j:Nat} (hl:Q3.sz k l) (hm:Q3.sz j m):QB (qT l m) (k+j+(k+j)+1):=yJ (OQ hl) (OQ hm)
theorem aam {l m:Q3} {k j:Nat} (hl:Q3.sz k l) (hm:Q3.sz j m):Q2.sz (k+j+(k+j)+1+(k+j+(k+j)+1)) (Iw l m) :=
 ⟨((hl.2.2.mul hm.2.1).sub (hl.2.1.mul hm.2.2)).div (OR hl hm) (by omega),((hl.1.mul hm.2.2).sub (hl.2.2.mul hm.1)).div (OR hl hm) (by omega)⟩
theorem z3 {k:Nat} (h:1≤k):zI.sz k∧Q3.sz k zI.q:=⟨V8 _,Q3.mono (Wa 0) h⟩
theorem z2 {k:Nat} (h:1≤k):C6.sz k∧Q2.sz k C6.p:=⟨V9 _,Q2.mono (Wb 0) h⟩
theorem R3.j3 {a b:R3} (h:a.v=b.v):a=b:=by
 have h:Value.agg ⟨[.bool a.1.1,.string a.1.2.1,.string a.1.2.2,.bool a.2.1.1,.string a.2.1.2.1,.string a.2.1.2.2,.bool a.2.2.1,.string a.2.2.2.1,.string a.2.2.2.2]⟩=Value.agg ⟨[.bool b.1.1,.string b.1.2.1,.string b.1.2.2,.bool b.2.1.1,.string b.2.1.2.1,.string b.2.1.2.2,.bool b.2.2.1,.string b.2.2.2.1,.string b.2.2.2.2]⟩:=h;simp only [Value.agg.injEq,Array.mk.injEq,List.cons.injEq,Value.bool.injEq,Value.string.injEq] at h;obtain ⟨h1,J,h3,h4,h5,h6,h7,h8,h9,_⟩:=h;exact Prod.ext (Prod.ext h1 (Prod.ext J h3)) (Prod.ext (Prod.ext h4 (Prod.ext h5 h6)) (Prod.ext h7 (Prod.ext h8 h9)))
theorem jF:QB (2:Rat) 1:=zg (n:=2) (by decide)
open Go
theorem dG (a b c:Q2):ao a b c=(b.1 - a.1)*(c.2 - a.2) - (b.2 - a.2)*(c.1 - a.1):=rfl
theorem w6 (a b c:Q2):ao a b c=ao b c a:=by rw [dG,dG]; grind
theorem yL (a b c:Q2):ao a c b=-ao a b c:=by rw [dG,dG]; grind
theorem Ch (a b:Q2):ao a a b=0:=by rw [dG]; grind
theorem qh (a b:Q2):ao a b a=0:=by rw [dG]; grind
theorem oT (a b:Q2):ao a b b=0:=by rw [dG]; grind
theorem Nb (a b c d:Q2) (t:Rat):ao (atR a b t) c d=(1 - t)*ao a c d+t*ao b c d:=by
 simp only [dG,atR]; grind
theorem Wc (a b c d:Q2) (t:Rat):ao c (atR a b t) d=(1 - t)*ao c a d+t*ao c b d:=by
 simp only [dG,atR]; grind
theorem BV (a b c d:Q2) (t:Rat):ao c d (atR a b t)=(1 - t)*ao c d a+t*ao c d b:=by
 simp only [dG,atR]; grind
theorem pV {x y t:Rat} (h0:0≤t) (h1:t≤1) (hx:0≤x) (hy:0≤y):0≤(1 - t)*x+t*y:=by
 have a:=Rat.mul_nonneg (show 0≤1 - t by grind) hx
 have b:=Rat.mul_nonneg h0 hy;grind
def pg (a:Q2) (l:List Q2):Prop:=l.Pairwise (fun b c=>0≤ao a b c)
def bD:List Q2→Prop
 | []=>True
 | a::l=>pg a l∧bD l
theorem bD.sublist {l m:List Q2} (h:bD m) (hs:l.Sublist m):bD l:=by
 induction hs with
 | slnil=>exact trivial
 | cons a hs ih=>exact ih h.2
 | cons_cons a hs ih=>exact ⟨h.1.sublist hs,ih h.2⟩
theorem bD.filter {l:List Q2} (h:bD l) (f:Q2→Bool):bD (l.filter f):=h.sublist List.filter_sublist
theorem pg.ins {a p q:Q2} {t:Rat} {A B:List Q2} (h0:0≤t) (h1:t≤1) (h:pg a (A++p::q::B)):pg a (A++p::atR p q t::q::B):=by
 unfold pg at *;rw [List.pairwise_append] at h ⊢;obtain ⟨hA,hB,mf⟩:=h;rw [List.pairwise_cons,List.pairwise_cons] at hB;obtain ⟨hp,hq,hB⟩:=hB;refine ⟨hA,?_,?_⟩
 ·rw [List.pairwise_cons,List.pairwise_cons,List.pairwise_cons];refine ⟨?_,?_,hq,hB⟩
  ·intro z hz;rcases List.mem_cons.1 hz with rfl | hz
   ·rw [BV,oT];exact pV h0 h1 (by grind) (hp _ (List.mem_cons_self ..))
   ·exact hp z hz
  ·intro z hz;rw [Wc];rcases List.mem_cons.1 hz with rfl | hz
   ·exact pV h0 h1 (hp _ (List.mem_cons_self ..)) (by rw [oT]; grind)
   ·exact pV h0 h1 (hp _ (List.mem_cons_of_mem _ hz)) (hq _ hz)
 ·intro y hy z hz;rcases List.mem_cons.1 hz with rfl | hz
  ·exact mf y hy _ (List.mem_cons_self ..)
  ·rcases List.mem_cons.1 hz with rfl | hz
   ·rw [BV];exact pV h0 h1 (mf y hy _ (List.mem_cons_self ..)) (mf y hy _ (List.mem_cons_of_mem _ (List.mem_cons_self ..)))
   ·exact mf y hy _ (List.mem_cons_of_mem _ hz)
theorem bD.ins {p q:Q2} {t:Rat} {A B:List Q2} (h0:0≤t) (h1:t≤1) (h:bD (A++p::q::B)):bD (A++p::atR p q t::q::B):=by
 induction A with
 | cons a A ih=>exact ⟨h.1.ins h0 h1,ih h.2⟩
 | nil =>
  obtain ⟨hp,hq,hB⟩:=h;refine ⟨pg.ins (A:=[]) (p:=p) h0 h1 (by
   show List.Pairwise _ (p::q::B)
   rw [List.pairwise_cons];exact ⟨fun z hz=>by rw [Ch]; grind,hp⟩) |>.sublist (List.sublist_cons_self ..),?_,hq,hB⟩
  unfold pg at *;rw [List.pairwise_cons] at hp ⊢;obtain ⟨hp,hpB⟩:=hp;refine ⟨fun z hz=>?_,?_⟩
  ·rw [Nb,Ch];exact pV h0 h1 (hp z hz) (by grind)
  ·exact (hpB.and hq).imp (fun ⟨x,y⟩=>by rw [Nb]; exact pV h0 h1 x y)
theorem bD.snoc {A:List Q2} {x:Q2} (h:bD A) (hx:A.Pairwise (fun y z=>0≤ao y z x)):bD (A++[x]):=by
 induction A with
 | nil=>exact ⟨.nil,trivial⟩
 | cons a A ih =>
  rw [List.pairwise_cons] at hx;refine ⟨?_,ih h.2 hx.2⟩;show List.Pairwise _ (A++[x])
  rw [List.pairwise_append];exact ⟨h.1,by simp,fun y hy z hz=>by simp at hz; subst hz; exact hx.1 y hy⟩
theorem bD.aek {a:Q2} {l:List Q2} (h:bD (a::l)):bD (l++[a]) :=
 h.2.snoc (h.1.imp (fun {y z} h=>by rw [w6,w6]; rw [← w6] at *; first | exact h | (rw [w6]; exact h)))
theorem bD.tw {A B:List Q2} (h:bD (A++B)):bD (B++A):=by
 induction A generalizing B with
 | nil=>rw [List.append_nil]; exact h
 | cons a A ih =>
  have:bD ((A++B)++[a]):=h.aek;rw [List.append_assoc] at this;have:=ih this
  rwa [List.append_assoc] at this
theorem bD.last {p h0:Q2} {t:Rat} {A:List Q2} (h1:0≤t) (J:t≤1) (h:bD (A++[p])) (hh:(A++[p]).head?=some h0):bD (A++[p,atR p h0 t]):=by
 have:=h.tw;cases A with
 | nil =>
  simp at hh; subst hh;exact ⟨by unfold pg; simp,by unfold pg; simp,trivial⟩
 | cons a A =>
  simp at hh; subst hh;have:=bD.ins (A:=[]) h1 J this;have:=bD.tw (A:=[p,atR p a t]) (B:=a::A) this;exact this
open Go
def cc {α:Type} (l:List α):List (α × α):=l.zip l.tail
def bc {α:Type} (l:List α):List (α × α):=cc (l++l.head?.toList)
theorem lu {α:Type} (p q:α) (l:List α):cc (p::q::l)=(p,q)::cc (q::l):=rfl
theorem tX {α:Type} (A B:List α) (x:α):cc (A++x::B)=cc (A++[x])++cc (x::B):=by
 induction A with
 | nil=>rfl
 | cons a A ih =>
  cases A with
  | nil=>rfl
  | cons b A =>
   show (a,b)::cc (b::A++x::B)=(a,b)::cc (b::A++[x])++_
   rw [ih]; rfl
theorem Fc {α:Type} {l:List α} {e:α × α} (h:e∈cc l):e.1∈l∧e.2∈l:=by
 have:=List.of_mem_zip h;exact ⟨this.1,List.mem_of_mem_tail this.2⟩
theorem wo {α:Type} (h:α) (l:List α):bc (h::l)=cc (h::l++[h]):=rfl
theorem mq {α:Type} {l:List α} {e:α × α} (h:e∈bc l):e.1∈l∧e.2∈l:=by
 cases l with
 | nil=>cases h
 | cons a l =>
  have:=Fc h;simp at this ⊢;exact ⟨by rcases this.1 with h | h | h <;> simp [h],by rcases this.2 with h | h | h <;> simp [h]⟩
theorem yB {α:Type} {A B:List α} {e:α × α} (h:e∈bc (A++B)):e∈bc (B++A):=by
 cases A with
 | nil=>rw [List.append_nil]; exact h
 | cons a A =>
  cases B with
  | nil=>rw [List.append_nil] at h; exact h
  | cons b B =>
   have h1:bc (a::A++b::B)=cc (a::A++[b])++cc (b::B++[a]):=by
    show cc ((a::A++b::B)++[a])=_
    rw [List.append_assoc];exact tX (a::A) (B++[a]) b
   have J:bc (b::B++a::A)=cc (b::B++[a])++cc (a::A++[b]):=by
    show cc ((b::B++a::A)++[b])=_
    rw [List.append_assoc];exact tX (b::B) (A++[b]) a
   rw [h1] at h;rw [J];rcases List.mem_append.1 h with h | h
   ·exact List.mem_append_right _ h
   ·exact List.mem_append_left _ h
theorem Mv {α β:Type} (f:α→β) (l:List α):bc (l.map f)=(bc l).map (fun e=>(f e.1,f e.2)):=by
 unfold bc cc;have:l.map f++(l.map f).head?.toList=(l++l.head?.toList).map f:=by cases l <;> simp
 rw [this,← List.map_tail,List.zip_map]
 rfl
theorem TG {α:Type} {l:List α} {i:Nat} {p q:α} (hp:l[i]?=some p) (hq:l[i+1]?=some q):(cc l)[i]?=some (p,q):=by
 unfold cc;rw [List.getElem?_zip_eq_some];exact ⟨hp,by rw [List.getElem?_tail]; exact hq⟩
theorem nM {α:Type} (l:List α):(bc l).length=l.length:=by
 cases l with
 | nil=>rfl
 | cons a l=>rw [wo]; unfold cc; simp
theorem pX {α:Type} {l:List α} {i:Nat} {p q:α} (hp:l[i]?=some p) (hq:l[(i+1) % l.length]?=some q):(bc l)[i]?=some (p,q):=by
 cases l with
 | nil=>simp at hp
 | cons a l =>
  have hi:i < (a::l).length:=(List.getElem?_eq_some_iff.1 hp).1;rw [wo];refine TG (by rw [List.getElem?_append_left hi]; exact hp) ?_
  rcases Nat.lt_or_eq_of_le (show i+1≤(a::l).length from hi) with h | h
  ·rw [Nat.mod_eq_of_lt h] at hq;rw [List.getElem?_append_left h]; exact hq
  ·rw [h,Nat.mod_self] at hq;rw [List.getElem?_append_right (by omega),h,Nat.sub_self]
   exact hq
theorem gq (l:Q3) (p:Q2):aq l p=l.1*p.1+l.2.1*p.2 - l.2.2:=rfl
theorem yM (m:Q3) (a b:Q2) (t:Rat):aq m (atR a b t)=(1 - t)*aq m a+t*aq m b:=by
 simp only [gq,atR]; grind
def je (m:Q3) (p q:Q2):Rat:=aq m p / (aq m p - aq m q)
def gY (m:Q3) (p q:Q2):List Q2:=if ba (aq m p) 0*ba (aq m q) 0 < 0 then [atR p q (je m p q)] else []
def mB (m:Q3) (p:Q2):List Q2:=if ba (aq m p) 0 ≥ 0 then [p] else []
def dk (m:Q3) (l:List Q2):List Q2:=(bc l).flatMap fun e=>mB m e.1++gY m e.1 e.2
def Qi (m:Q3) (l:List Q2):List Q2:=(bc l).flatMap fun e=>e.1::gY m e.1 e.2
theorem BD {m:Q3} {p q:Q2}:ba (aq m p) 0*ba (aq m q) 0 < 0↔(0 < aq m p∧aq m q < 0)∨(aq m p < 0∧0 < aq m q):=by
 rcases Br (aq m p) with ⟨h1,J⟩ | ⟨h1,J⟩ | ⟨h1,J⟩ <;> rcases Br (aq m q) with ⟨h3,h4⟩ | ⟨h3,h4⟩ | ⟨h3,h4⟩ <;> rw [J,h4] <;> constructor <;> intro h <;> first | grind | omega
theorem Wd {x y:Rat} (h:(0 < x∧y < 0)∨(x < 0∧0 < y)):0≤x / (x - y)∧x / (x - y)≤1∧(x / (x - y))*(x - y)=x:=by
 have aJ:x - y≠0:=by grind
 have e:(x / (x - y))*(x - y)=x:=by rw [Rat.div_def]; grind
 refine ⟨?_,?_,e⟩
 ·rcases h with ⟨h1,J⟩ | ⟨h1,J⟩
  ·by_cases h3:x / (x - y) < 0
   ·have:=Rat.mul_pos (show 0 < -(x / (x - y)) by grind) (show 0 < x - y by grind); grind
   ·grind
  ·by_cases h3:x / (x - y) < 0
   ·have:=Rat.mul_pos (show 0 < -(x / (x - y)) by grind) (show 0 < y - x by grind); grind
   ·grind
 ·rcases h with ⟨h1,J⟩ | ⟨h1,J⟩
  ·by_cases h3:1 < x / (x - y)
   ·have:=Rat.mul_pos (show 0 < x / (x - y) - 1 by grind) (show 0 < x - y by grind); grind
   ·grind
  ·by_cases h3:1 < x / (x - y)
   ·have:=Rat.mul_pos (show 0 < x / (x - y) - 1 by grind) (show 0 < y - x by grind); grind
   ·grind
theorem tT {m:Q3} {p q x:Q2} (h:x∈gY m p q):((0 < aq m p∧aq m q < 0)∨(aq m p < 0∧0 < aq m q))∧x=atR p q (je m p q)∧0≤je m p q∧je m p q≤1∧aq m x=0:=by
 unfold gY at h
 split at h
 ·rename_i h1;have h1:=BD.1 h1;simp at h;obtain ⟨J,h3,h4⟩:=Wd h1;refine ⟨h1,h,J,h3,?_⟩;rw [h,yM];unfold je;grind
 ·cases h
theorem BE {m:Q3} {p q:Q2} (h:(0 < aq m p∧aq m q < 0)∨(aq m p < 0∧0 < aq m q)):gY m p q=[atR p q (je m p q)]:=by
 unfold gY; rw [if_pos (BD.2 h)]
theorem KE (m:Q3) (p q:Q2):gY m p q=[]∨(gY m p q=[atR p q (je m p q)]∧0≤je m p q∧je m p q≤1):=by
 by_cases h:ba (aq m p) 0*ba (aq m q) 0 < 0
 ·have h1:=BE (BD.1 h);have:=tT (x:=atR p q (je m p q)) (by rw [h1]; simp)
  exact .inr ⟨h1,this.2.2.1,this.2.2.2.1⟩
 ·left; unfold gY; rw [if_neg h]
theorem TH (m:Q3) (l:List Q2):dk m l=(Qi m l).filter fun p=>decide (0≤aq m p):=by
 unfold dk Qi;rw [List.filter_flatMap]
 congr 1
 funext e
 rw [List.filter_cons];have h1:(gY m e.1 e.2).filter (fun p=>decide (0≤aq m p))=gY m e.1 e.2:=by
  rw [List.filter_eq_self];intro x hx;have:=(tT hx).2.2.2.2;rw [this]; decide
 rw [h1];unfold mB;by_cases h:0≤aq m e.1
 ·rw [if_pos (nO.2 h),if_pos (by simpa using h)]; rfl
 ·rw [if_neg (fun J=>h (nO.1 J)),if_neg (by simpa using h)]; rfl
theorem We (m:Q3) {h:Q2}:∀ (B:List Q2) (p:Q2) (A:List Q2),bD (A++p::B)→(A++p::B).head?=some h→bD (A++(cc (p::B++[h])).flatMap fun e=>e.1::gY m e.1 e.2):=by
 intro B
 induction B with
 | nil =>
  intro p A ht hh;show bD (A++((p::gY m p h)++[]))
  rw [List.append_nil];rcases KE m p h with e | ⟨e,h1,J⟩
  ·rw [e]; exact ht
  ·rw [e]; exact ht.last h1 J hh
 | cons q B ih =>
  intro p A ht hh;show bD (A++((p::gY m p q)++(cc (q::B++[h])).flatMap fun e=>e.1::gY m e.1 e.2))
  rw [← List.append_assoc];rcases KE m p q with e | ⟨e,h1,J⟩
  ·rw [e];exact ih q (A++[p]) (by rw [List.append_assoc]; exact ht) (by rw [List.append_assoc]; exact hh)
  ·rw [e];refine ih q (A++[p,atR p q (je m p q)]) ?_ ?_
   ·rw [List.append_assoc]; exact ht.ins h1 J
   ·cases A with
    | nil=>exact hh
    | cons a A=>exact hh
theorem Nc {m:Q3} {l:List Q2} (h:bD l):bD (dk m l):=by
 rw [TH];refine bD.filter ?_ _;cases l with
 | nil=>exact trivial
 | cons a l=>exact We m l a [] h rfl
open Go
def cN (P:List Q2) (p:Q2):Prop:=∀ f:Q3,(∀ v∈P,0≤aq f v)→0≤aq f p
theorem cN.my {P:List Q2} {v:Q2} (h:v∈P):cN P v:=fun f hf=>hf v h
theorem cN.trans {P Q:List Q2} {p:Q2} (h:cN P p) (hq:∀ v∈P,cN Q v):cN Q p:=fun f hf=>h f (fun v hv=>hq v hv f hf)
theorem cN.mono {P Q:List Q2} {p:Q2} (h:cN P p) (hq:∀ v∈P,v∈Q):cN Q p:=h.trans fun v hv=>.my (hq v hv)
theorem cN.nil (p:Q2):¬ cN [] p:=fun h=>by
 have:=h (0,0,1) (fun v hv=>nomatch hv)
 rw [gq] at this;grind
theorem cN.at {P:List Q2} {a b:Q2} {t:Rat} (ha:cN P a) (hb:cN P b) (h0:0≤t) (h1:t≤1):cN P (atR a b t):=fun f hf=>by
 rw [yM]; exact pV h0 h1 (ha f hf) (hb f hf)
theorem N2 {m:Q3} {P:List Q2} {x:Q2} (h:x∈dk m P):(x∈P∧0≤aq m x)∨∃ e∈bc P,x∈gY m e.1 e.2:=by
 unfold dk at h;obtain ⟨e,he,hx⟩:=List.mem_flatMap.1 h;rcases List.mem_append.1 hx with hx | hx
 ·left
  unfold mB at hx
  split at hx
  ·rename_i hc;simp at hx;rw [hx];exact ⟨(mq he).1,nO.1 hc⟩
  ·cases hx
 ·exact .inr ⟨e,he,hx⟩
theorem TJ {α:Type} {l:List α} {x:α} (h:x∈l):∃ y,(x,y)∈bc l:=by
 obtain ⟨i,hi,rfl⟩:=List.getElem_of_mem h;have J:(i+1) % l.length < l.length:=Nat.mod_lt _ (by omega)
 have:=pX (List.getElem?_eq_getElem hi) (List.getElem?_eq_getElem J);exact ⟨_,List.mem_of_getElem? this⟩
theorem Nd {m:Q3} {P:List Q2} {x:Q2} (h:x∈P) (hm:0≤aq m x):x∈dk m P:=by
 obtain ⟨y,hy⟩:=TJ h;unfold dk;refine List.mem_flatMap.2 ⟨_,hy,List.mem_append_left _ ?_⟩;unfold mB;rw [if_pos (nO.2 hm)];exact List.mem_cons_self ..
theorem Mw {m:Q3} {P:List Q2} {x y:Q2} (he:(x,y)∈bc P) (h:(0≤aq m x∧aq m y < 0)∨(aq m x≤0∧0 < aq m y)):∃ t,0≤t∧t≤1∧atR x y t∈dk m P∧aq m (atR x y t)=0:=by
 by_cases h0:aq m x=0
 ·refine ⟨0,by grind,by grind,?_,by rw [yM,h0]; grind⟩
  have:atR x y 0=x:=by unfold atR; exact Prod.ext (by grind) (by grind)
  rw [this];exact Nd (mq he).1 (by grind)
 ·have J:(0 < aq m x∧aq m y < 0)∨(aq m x < 0∧0 < aq m y):=by grind
  have h3:=BE J;have h4:=tT (x:=atR x y (je m x y)) (by rw [h3]; simp)
  refine ⟨_,h4.2.2.1,h4.2.2.2.1,?_,h4.2.2.2.2⟩;unfold dk;exact List.mem_flatMap.2 ⟨_,he,List.mem_append_right _ (by rw [h3]; simp)⟩
theorem Mx {m:Q3}:∀ (l:List Q2) (a:Q2),0≤aq m a→(∃ w∈l,aq m w < 0)→∃ x y,(x,y)∈cc (a::l)∧0≤aq m x∧aq m y < 0:=by
 intro l
 induction l with
 | nil=>rintro a _ ⟨w,hw,_⟩; cases hw
 | cons b l ih =>
  rintro a ha ⟨w,hw,hm⟩
  rw [lu];by_cases hb:aq m b < 0
  ·exact ⟨a,b,List.mem_cons_self ..,ha,hb⟩
  ·rcases List.mem_cons.1 hw with rfl | hw
   ·exact absurd hm hb
   ·obtain ⟨x,y,h1,J⟩:=ih b (by grind) ⟨w,hw,hm⟩
    exact ⟨x,y,List.mem_cons_of_mem _ h1,J⟩
def Ix (m:Q3):Q3:=(-m.1,-m.2.1,-m.2.2)
theorem Gd (m:Q3) (p:Q2):aq (Ix m) p=-aq m p:=by rw [gq,gq]; unfold Ix; grind
theorem TL {m:Q3} (l:List Q2) (a:Q2) (h:aq m a≤0) (hw:∃ w∈l,0 < aq m w):∃ x y,(x,y)∈cc (a::l)∧aq m x≤0∧0 < aq m y:=by
 obtain ⟨x,y,h1,J,h3⟩:=Mx (m:=Ix m) l a (by rw [Gd]; grind) (by obtain ⟨w,h1,J⟩:=hw; exact ⟨w,h1,by rw [Gd]; grind⟩)
 rw [Gd] at J h3;exact ⟨x,y,h1,by grind,by grind⟩
theorem TM (f m:Q3) (v w z:Q2):∃ α β γ:Rat,(∀ z,(aq m v - aq m w)*aq f z=α*aq m z+β*ao v w z+γ):=by
 refine ⟨-(f.1*(w.1 - v.1)+f.2.1*(w.2 - v.2)),-(m.1*f.2.1 - m.2.1*f.1),(aq m v - aq m w)*aq f v - -(f.1*(w.1 - v.1)+f.2.1*(w.2 - v.2))*aq m v,fun z=>?_⟩
 simp only [gq,dG];grind
theorem TN (f m:Q3):∀ P:List Q2,∃ k:Rat,0≤k∧(∀ v∈P,aq m v < 0→0≤aq f v - k*aq m v)∧(k=0∨∃ w∈P,aq m w < 0∧aq f w=k*aq m w):=by
 intro P
 induction P with
 | nil=>exact ⟨0,by grind,(fun v hv=>by cases hv),.inl rfl⟩
 | cons v P ih =>
  obtain ⟨k,hk,h1,J⟩:=ih;by_cases hv:aq m v < 0∧aq f v - k*aq m v < 0
  ·obtain ⟨mc,DV⟩:=hv;have e:aq f v / aq m v*aq m v=aq f v:=by rw [Rat.div_def]; grind
   obtain ⟨j,hj⟩:∃ j,j=aq f v / aq m v:=⟨_,rfl⟩;rw [← hj] at e;have al:k < j:=by
    by_cases h:k < j
    ·exact h
    ·have:=Rat.mul_nonneg (show 0≤k - j by grind) (show 0≤-aq m v by grind)
     grind
   refine ⟨j,by grind,fun u hu hm=>?_,.inr ⟨v,List.mem_cons_self ..,mc,e.symm⟩⟩
   rcases List.mem_cons.1 hu with rfl | hu
   ·rw [e]; grind
   ·have h3:=h1 u hu hm;have:=Rat.mul_nonneg (show 0≤j - k by grind) (show 0≤-aq m u by grind)
    grind
  ·refine ⟨k,hk,fun u hu hm=>?_,?_⟩
   ·rcases List.mem_cons.1 hu with rfl | hu
    ·have:¬ (aq f u - k*aq m u < 0):=fun h=>hv ⟨hm,h⟩
     grind
    ·exact h1 u hu hm
   ·rcases J with J | ⟨w,hw,J⟩
    ·exact .inl J
    ·exact .inr ⟨w,List.mem_cons_of_mem _ hw,J⟩
theorem bD.mid {v w x:Q2} {A B:List Q2} (h:bD (v::A++w::B)) (hx:x∈v::A++[w]):ao v w x≤0:=by
 have hl:List.Pairwise (fun b c=>0≤ao v b c) (A++w::B):=h.1
 rw [List.pairwise_append] at hl;simp only [List.cons_append,List.mem_cons,List.mem_append,List.not_mem_nil,or_false] at hx;rcases hx with rfl | hx | rfl
 ·rw [qh]; grind
 ·have:=hl.2.2 x hx w (List.mem_cons_self ..);rw [yL]; grind
 ·rw [oT]; grind
theorem bD.back {v w x:Q2} {A B:List Q2} (h:bD (v::A++w::B)) (hx:x∈w::B++[v]):0≤ao v w x:=by
 have hl:List.Pairwise (fun b c=>0≤ao v b c) (A++w::B):=h.1
 rw [List.pairwise_append,List.pairwise_cons] at hl;simp only [List.cons_append,List.mem_cons,List.mem_append,List.not_mem_nil,or_false] at hx;rcases hx with rfl | hx | rfl
 ·rw [oT]; grind
 ·exact hl.2.1.1 x hx
 ·rw [qh]; grind
theorem Xu {m f:Q3} {P:List Q2} {v w:Q2} (hT:bD P) (hf:∀ x∈dk m P,0≤aq f x) (hv:v∈P) (hw:w∈P) (ta:0 < aq m v) (JC:aq m w < 0):0≤aq f v*(-aq m w)+aq f w*aq m v:=by
 obtain ⟨P1,P2,rfl⟩:=List.append_of_mem hv;have Jk:w∈P2++P1:=by
  rcases List.mem_append.1 hw with h | h
  ·exact List.mem_append_right _ h
  ·rcases List.mem_cons.1 h with rfl | h
   ·grind
   ·exact List.mem_append_left _ h
 obtain ⟨A,B,mf⟩:=List.append_of_mem Jk;have mS:bD (v::A++w::B):=by
  have:=hT.tw;rw [List.cons_append,mf] at this;exact this
 have Pu:∀ e,e∈bc (v::A++w::B)→e∈bc (P1++v::P2):=fun e he=>by
  refine yB (A:=v::P2) ?_;rw [List.cons_append,mf]; exact he
 have OS:bc (v::A++w::B)=cc (v::A++[w])++cc (w::B++[v]):=by
  show cc ((v::A++w::B)++[v])=_
  rw [List.append_assoc];exact tX (v::A) (B++[v]) w
 obtain ⟨x1,y1,Ri,og,nw⟩:=Mx (m:=m) (A++[w]) v (by grind) ⟨w,by simp,JC⟩
 obtain ⟨x2,y2,bW,lZ,oh⟩:=TL (m:=m) (B++[v]) w (by grind) ⟨v,by simp,ta⟩
 have m1:=Fc Ri;have m2:=Fc bW;obtain ⟨t1,Ay,Ra,rn,QD⟩:=Mw (Pu _ (by rw [OS]; exact List.mem_append_left _ Ri)) (.inl ⟨og,nw⟩)
 obtain ⟨t2,h20,h21,Js,eI⟩:=Mw (Pu _ (by rw [OS]; exact List.mem_append_right _ bW)) (.inr ⟨lZ,oh⟩)
 have Jl:=hf _ rn;have hf2:=hf _ Js;have hg1:ao v w (atR x1 y1 t1)≤0:=by
  rw [BV];have:=pV Ay Ra (show 0≤-ao v w x1 by have:=mS.mid m1.1; grind) (show 0≤-ao v w y1 by have:=mS.mid m1.2; grind)
  grind
 have tx:0≤ao v w (atR x2 y2 t2):=by
  rw [BV];exact pV h20 h21 (mS.back m2.1) (mS.back m2.2)
 obtain ⟨α,β,γ,hF⟩:=TM f m v w v;have ev:=hF v;have ew:=hF w;have e1:=hF (atR x1 y1 t1);have e2:=hF (atR x2 y2 t2);rw [QD] at e1;rw [eI] at e2;rw [qh] at ev;rw [oT] at ew;obtain ⟨D,hD⟩:∃ D,D=aq m v - aq m w:=⟨_,rfl⟩;have x6:0 < D:=by grind
 rw [← hD] at ev ew e1 e2;have x4:0≤γ:=by
  by_cases hβ:0≤β
  ·have a:=Rat.mul_nonneg hβ (show 0≤-ao v w (atR x1 y1 t1) by grind)
   have b:=Rat.mul_nonneg (show 0≤D by grind) Jl
   grind
  ·have a:=Rat.mul_nonneg (show 0≤-β by grind) tx
   have b:=Rat.mul_nonneg (show 0≤D by grind) hf2
   grind
 have:D*(aq f v*(-aq m w)+aq f w*aq m v)=D*γ:=by grind
 have:aq f v*(-aq m w)+aq f w*aq m v=γ:=by
  have h:=congrArg (· / D) this;simp only [Rat.div_def] at h;grind
 rw [this]; exact x4
theorem Wf {m:Q3} {P:List Q2} {p:Q2} (hT:bD P) (h:cN P p) (hm:0≤aq m p):cN (dk m P) p:=fun f hf=>by
 obtain ⟨k,hk,h1,J⟩:=TN f m P;have hg:∀ v∈P,0≤aq (f.1 - k*m.1,f.2.1 - k*m.2.1,f.2.2 - k*m.2.2) v:=fun v hv=>by
  have e:aq (f.1 - k*m.1,f.2.1 - k*m.2.1,f.2.2 - k*m.2.2) v=aq f v - k*aq m v:=by simp only [gq]; grind
  rw [e];by_cases hn:aq m v < 0
  ·exact h1 v hv hn
  ·have hfv:=hf v (Nd hv (by grind))
   rcases J with rfl | ⟨w,hw,JC,hfw⟩
   ·grind
   ·by_cases h0:aq m v=0
    ·rw [h0]; grind
    ·have:=Xu hT hf hv hw (by grind) JC
     rw [hfw] at this;have e2:aq f v*-aq m w+k*aq m w*aq m v=(aq f v - k*aq m v)*(-aq m w):=by grind
     rw [e2] at this;by_cases h3:0≤aq f v - k*aq m v
     ·exact h3
     ·have:=Rat.mul_pos (show 0 < -(aq f v - k*aq m v) by grind) (show 0 < -aq m w by grind)
      grind
 have:=h _ hg;have e:aq (f.1 - k*m.1,f.2.1 - k*m.2.1,f.2.2 - k*m.2.2) p=aq f p - k*aq m p:=by simp only [gq]; grind
 rw [e] at this;have:=Rat.mul_nonneg hk hm;grind
theorem Nf {m:Q3} {P:List Q2} {x:Q2} (h:x∈dk m P):cN P x∧0≤aq m x:=by
 rcases N2 h with ⟨h1,J⟩ | ⟨e,he,hx⟩
 ·exact ⟨.my h1,J⟩
 ·have:=tT hx;refine ⟨?_,by rw [this.2.2.2.2]; grind⟩
  rw [this.2.1];exact (cN.my (mq he).1).at (.my (mq he).2) this.2.2.1 this.2.2.2.1
theorem KF {m:Q3} {P:List Q2} {p:Q2} (hT:bD P):cN (dk m P) p↔cN P p∧0≤aq m p :=
 ⟨fun h=>⟨h.trans fun v hv=>(Nf hv).1,h m fun v hv=>(Nf hv).2⟩,fun h=>Wf hT h.1 h.2⟩
open Go
def pJ (a b:Q2):Q3:=(-(b.2 - a.2),b.1 - a.1,(b.1 - a.1)*a.2 - (b.2 - a.2)*a.1)
theorem oU (a b z:Q2):aq (pJ a b) z=ao a b z:=by simp only [gq,dG,pJ]; grind
def Iy (f g:Q3):Q3:=(f.1+g.1,f.2.1+g.2.1,f.2.2+g.2.2)
theorem Ng (f g:Q3) (z:Q2):aq (Iy f g) z=aq f z+aq g z:=by simp only [gq,Iy]; grind
theorem GO {a b:Q2} (h:a≠b):mR (pJ a b):=fun ⟨h1,J⟩=>h (Prod.ext (by unfold pJ at J; grind) (by unfold pJ at h1; grind))
theorem KG {α:Type} {l:List α} {e:α × α} (h:e∈cc l):∃ A B,l=A++e.1::e.2::B:=by
 induction l with
 | nil=>cases h
 | cons a l ih =>
  cases l with
  | nil=>cases h
  | cons b l =>
   rw [lu] at h;rcases List.mem_cons.1 h with rfl | h
   ·exact ⟨[],l,rfl⟩
   ·obtain ⟨A,B,mf⟩:=ih h;exact ⟨a::A,B,by rw [mf]; rfl⟩
theorem Wg {α:Type} {P:List α} {a b:α} (h:(a,b)∈bc P):(P=[a]∧b=a)∨∃ X Y M,P=X++Y∧Y++X=a::b::M:=by
 cases P with
 | nil=>cases h
 | cons c l =>
  obtain ⟨A,B,mf⟩:=KG h;have mf:c::l++[c]=A++a::b::B:=mf;rcases List.eq_nil_or_concat B with rfl | ⟨B,d,rfl⟩
  ·have h1:c::l++[c]=(A++[a])++[b]:=by rw [mf]; simp
   have J:=List.append_inj' h1 rfl;simp at J;obtain ⟨J,h3⟩:=J;cases A with
   | nil =>
    simp at J
    left; rw [J.1,J.2]; exact ⟨rfl,h3.symm.trans J.1⟩
   | cons x A =>
    right
    refine ⟨x::A,[a],A,by rw [J],?_⟩
    have:c=x:=by injection J
    show a::x::A=_
    rw [← this,h3]
  ·have h1:c::l++[c]=(A++a::b::B)++[d]:=by rw [mf]; simp
   have J:=(List.append_inj' h1 rfl).1
   right
   exact ⟨A,a::b::B,B++A,J,rfl⟩
theorem oO {P:List Q2} {a b z:Q2} (hT:bD P) (h:(a,b)∈bc P) (hz:z∈P):0≤ao a b z:=by
 rcases Wg h with ⟨rfl,rfl⟩ | ⟨X,Y,M,rfl,J⟩
 ·rw [Ch]; grind
 ·have mS:=hT.tw;rw [J] at mS;have ou:z∈a::b::M:=by
   rw [← J]; rcases List.mem_append.1 hz with h | h
   ·exact List.mem_append_right _ h
   ·exact List.mem_append_left _ h
  have:=mS.1;unfold pg at this;rw [List.pairwise_cons] at this;rcases List.mem_cons.1 ou with rfl | ou
  ·rw [qh]; grind
  ·rcases List.mem_cons.1 ou with rfl | ou
   ·rw [oT]; grind
   ·exact this.1 z ou
theorem BF {P:List Q2} {a b z:Q2} (hT:bD P) (h:(a,b)∈bc P) (hz:cN P z):0≤ao a b z:=by
 rw [← oU];exact hz _ fun v hv=>by rw [oU]; exact oO hT h hv
def fY (P:List Q2) (v:Q2):Prop:=cN P v∧∃ f,aq f v=0∧∀ z,cN P z→z≠v→0 < aq f z
def g7 (P Q:List Q2):Prop:=∀ p,cN P p↔cN Q p
theorem g7.symm {P Q:List Q2} (h:g7 P Q):g7 Q P:=fun p=>(h p).symm
theorem g7.trans {P Q R:List Q2} (h:g7 P Q) (g:g7 Q R):g7 P R:=fun p=>(h p).trans (g p)
theorem g7.rfl' {P:List Q2}:g7 P P:=fun p=>Iff.rfl
theorem g7.my {P Q:List Q2} (h:∀ v,v∈P↔v∈Q):g7 P Q:=fun p=>⟨fun hp=>hp.mono fun v hv=>(h v).1 hv,fun hp=>hp.mono fun v hv=>(h v).2 hv⟩
theorem fY.same {P Q:List Q2} {v:Q2} (h:fY P v) (hs:g7 P Q):fY Q v :=
 ⟨(hs v).1 h.1,h.2.imp fun f hf=>⟨hf.1,fun z hz aJ=>hf.2 z ((hs z).2 hz) aJ⟩⟩
theorem U0 (f:Q3):∀ P:List Q2,(∀ v∈P,0 < aq f v)→∃ e:Rat,0 < e∧∀ v∈P,e≤aq f v:=by
 intro P
 induction P with
 | nil=>exact fun _=>⟨1,by grind,fun v hv=>by cases hv⟩
 | cons a P ih =>
  intro h;obtain ⟨e,he,hP⟩:=ih fun v hv=>h v (List.mem_cons_of_mem _ hv)
  have ha:=h a (List.mem_cons_self ..);by_cases hc:e≤aq f a
  ·exact ⟨e,he,fun v hv=>by rcases List.mem_cons.1 hv with rfl | hv; exact hc; exact hP v hv⟩
  ·exact ⟨aq f a,ha,fun v hv=>by
    rcases List.mem_cons.1 hv with rfl | hv
    ·grind
    ·have:=hP v hv; grind⟩
theorem fY.mem {P:List Q2} {v:Q2} (h:fY P v):v∈P:=by
 refine Decidable.byContradiction fun hn=>?_
 obtain ⟨h1,f,J,h3⟩:=h;obtain ⟨e,he,h4⟩:=U0 f P fun z hz=>h3 z (.my hz) fun e=>hn (e ▸ hz)
 have:=h1 (f.1,f.2.1,f.2.2+e) fun z hz=>by
  have:=h4 z hz;have e2:aq (f.1,f.2.1,f.2.2+e) z=aq f z - e:=by simp only [gq]; grind
  rw [e2]; grind
 have e2:aq (f.1,f.2.1,f.2.2+e) v=aq f v - e:=by simp only [gq]; grind
 rw [e2,J] at this;grind
theorem Xv {p v q z:Q2} (h1:ao p v z=0) (J:ao v q z=0) (h:ao p v q≠0):z=v:=by
 rw [dG] at h1 J h;have a:((v.1 - p.1)*(q.2 - p.2) - (v.2 - p.2)*(q.1 - p.1))*(z.1 - v.1)=0:=by grind
 have b:((v.1 - p.1)*(q.2 - p.2) - (v.2 - p.2)*(q.1 - p.1))*(z.2 - v.2)=0:=by grind
 have a:=(Rat.mul_eq_zero.1 a).resolve_left h;have b:=(Rat.mul_eq_zero.1 b).resolve_left h;exact Prod.ext (by grind) (by grind)
theorem LD {P:List Q2} {p v q:Q2} (hT:bD P) (h1:(p,v)∈bc P) (J:(v,q)∈bc P) (h:ao p v q≠0):fY P v:=by
 refine ⟨.my (mq J).1,Iy (pJ p v) (pJ v q),?_,fun z hz aJ=>?_⟩
 ·rw [Ng,oU,oU,oT,qh]; grind
 ·rw [Ng,oU,oU];have a:=BF hT h1 hz;have b:=BF hT J hz;by_cases h0:ao p v z+ao v q z=0
  ·exact absurd (Xv (by grind) (by grind) h) aJ
  ·grind
theorem fY.Bi {P:List Q2} {v a b:Q2} {t:Rat} (h:fY P v) (ha:cN P a) (hb:cN P b) (hav:a≠v) (hbv:b≠v) (h0:0 < t) (h1:t < 1):v≠atR a b t:=fun e=>by
 obtain ⟨_,f,J,h3⟩:=h;have x:=h3 a ha hav;have y:=h3 b hb hbv;rw [e,yM] at J;have:=Rat.mul_pos (show 0 < 1 - t by grind) x
 have:=Rat.mul_pos h0 y;grind
def Flat (P:List Q2):Prop:=∃ f,mR f∧∀ v∈P,aq f v=0
theorem Wh {P:List Q2} {a b:Q2} (h:¬ Flat P) (dJ:a≠b):∃ z∈P,ao a b z≠0:=by
 refine Decidable.byContradiction fun hn=>h ⟨pJ a b,GO dJ,fun v hv=>?_⟩
 rw [oU];exact Decidable.byContradiction fun h=>hn ⟨v,hv,h⟩
theorem Flat.mono {P Q:List Q2} (h:Flat Q) (hs:∀ v∈P,v∈Q):Flat P:=h.imp fun f hf=>⟨hf.1,fun v hv=>hf.2 v (hs v hv)⟩
theorem LF {P:List Q2} {p v q:Q2} (hT:bD P) (hF:¬ Flat P) (h1:(p,v)∈bc P) (J:(v,q)∈bc P) (mg:p≠v) (cX:v≠q) (h:ao p v q=0):∃ t,0 < t∧t < 1∧v=atR p q t:=by
 obtain ⟨z,hz,nK⟩:=Wh hF mg;have a:=oO hT h1 hz;have b:=oO hT J hz;obtain ⟨s,Rj,pG⟩:∃ s:Rat,q.1 - v.1=s*(v.1 - p.1)∧q.2 - v.2=s*(v.2 - p.2):=by
  rw [dG] at h;by_cases hx:v.1 - p.1=0
  ·have hy:v.2 - p.2≠0:=fun hy=>mg (Prod.ext (by grind) (by grind))
   refine ⟨(q.2 - v.2) / (v.2 - p.2),?_,?_⟩
   ·rw [hx] at h ⊢;have:(v.2 - p.2)*(q.1 - p.1)=0:=by grind
    have:=(Rat.mul_eq_zero.1 this).resolve_left hy;grind
   ·rw [Rat.div_def]; grind
  ·refine ⟨(q.1 - v.1) / (v.1 - p.1),?_,?_⟩
   ·rw [Rat.div_def]; grind
   ·rw [Rat.div_def];have:(v.1 - p.1)*(q.2 - v.2)=(v.1 - p.1)*((q.1 - v.1)*(v.1 - p.1)⁻¹*(v.2 - p.2)):=by grind
    have h0:(v.1 - p.1)*((q.2 - v.2) - ((q.1 - v.1)*(v.1 - p.1)⁻¹*(v.2 - p.2)))=0:=by grind
    have:=(Rat.mul_eq_zero.1 h0).resolve_left hx;grind
 have e:ao v q z=s*ao p v z:=by
  rw [dG,dG,Rj,pG]; grind
 have hs:0 < s:=by
  by_cases h0:s=0
  ·subst h0;exact absurd (Prod.ext (by grind) (by grind)) cX
  ·by_cases h1:0 < s
   ·exact h1
   ·have:=Rat.mul_pos (show 0 < -s by grind) (show 0 < ao p v z by grind)
    grind
 have aJ:1+s≠0:=by grind
 have hi:(1+s)⁻¹*(1+s)=1:=by grind
 have gk:0 < (1+s)⁻¹:=by
  by_cases h1:0 < (1+s)⁻¹
  ·exact h1
  ·have:=Rat.mul_nonneg (show 0≤-(1+s)⁻¹ by grind) (show 0≤1+s by grind)
   grind
 refine ⟨(1+s)⁻¹,gk,?_,?_⟩
 ·have:=Rat.mul_pos gk hs;grind
 ·unfold atR;refine Prod.ext ?_ ?_
  ·have:q.1 - p.1=(1+s)*(v.1 - p.1):=by grind
   show v.1=p.1+(q.1 - p.1)*(1+s)⁻¹
   rw [this]; grind
  ·have:q.2 - p.2=(1+s)*(v.2 - p.2):=by grind
   show v.2=p.2+(q.2 - p.2)*(1+s)⁻¹
   rw [this]; grind
theorem Wi {α:Type} [DecidableEq α]:∀ {l:List α},(∀ A h B C,l≠A++h::B++h::C)→l.Nodup:=by
 intro l
 induction l with
 | nil=>exact fun _=>.nil
 | cons a l ih =>
  intro h;rw [List.nodup_cons];refine ⟨fun hm=>?_,ih fun A x B C e=>h (a::A) x B C (by rw [e]; rfl)⟩
  obtain ⟨B,C,e⟩:=List.append_of_mem hm;exact h [] a B C (by rw [e]; rfl)
theorem Flat.tw {A B:List Q2} (h:Flat (A++B)):Flat (B++A):=h.mono fun v hv=>by
 rcases List.mem_append.1 hv with h | h
 ·exact List.mem_append_right _ h
 ·exact List.mem_append_left _ h
theorem LG {P:List Q2} (hT:bD P) (hF:¬ Flat P) (aJ:∀ e∈bc P,e.1≠e.2):P.Nodup:=by
 refine Wi fun A h B C e=>?_
 subst e;have mS:bD (h::B++h::(C++A)):=by
  have:=bD.tw (A:=A) (B:=h::B++h::C) (by simpa using hT)
  simpa using this
 have D2:¬ Flat (h::B++h::(C++A)):=fun J=>hF (by
  have:=Flat.tw (A:=h::B++h::C) (B:=A) (by simpa using J)
  simpa using this)
 have zV:∀ e∈bc (h::B++h::(C++A)),e.1≠e.2:=fun e he=>aJ e (by
  have:=yB (A:=h::B++h::C) (B:=A) (e:=e) (by simpa using he)
  simpa using this)
 generalize C++A=D at mS D2 zV;cases B with
 | nil=>exact zV (h,h) (by rw [show h::([]:List Q2)++h::D=h::h::D from rfl,wo]; exact List.mem_cons_self ..) rfl
 | cons q B =>
  cases D with
  | nil =>
   refine zV (h,h) ?_ rfl;show (h,h)∈cc ((h::q::B++[h])++[h])
   rw [List.append_assoc];show (h,h)∈cc (h::q::B++h::[h])
   rw [tX];exact List.mem_append_right _ (List.mem_cons_self ..)
  | cons r D =>
   have e1:(h,q)∈bc (h::(q::B)++h::r::D):=by
    show (h,q)∈cc (h::q::(B++h::r::D++[h]))
    exact List.mem_cons_self ..
   have e2:(h,r)∈bc (h::(q::B)++h::r::D):=by
    show (h,r)∈cc ((h::(q::B)++h::r::D)++[h])
    rw [List.append_assoc];show (h,r)∈cc (h::(q::B)++h::(r::D++[h]))
    rw [tX];exact List.mem_append_right _ (List.mem_cons_self ..)
   have hq:h≠q:=zV _ e1;have hr:h≠r:=zV _ e2;have hD:∀ z∈r::D,ao h q z=0:=fun z hz=>by
    have a:=oO mS e1 (z:=z) (List.mem_append_right _ (List.mem_cons_of_mem _ hz));have hl:bD (q::B++h::r::D):=mS.2;have:=bD.mid (A:=B) (B:=r::D) (x:=z) (v:=q) (w:=h);have hb:=bD.back (A:=B) (B:=r::D) (x:=z) (v:=q) (w:=h) hl (by
     show z∈h::(r::D)++[q]
     exact List.mem_append_left _ (List.mem_cons_of_mem _ hz))
    have:ao q h z=-ao h q z:=by rw [dG,dG]; grind
    grind
   have hB:∀ z∈q::B,ao h r z=0:=fun z hz=>by
    have a:=oO mS e2 (z:=z) (List.mem_append_left _ (List.mem_cons_of_mem _ hz));have hl:List.Pairwise (fun b c=>0≤ao h b c) (q::B++h::r::D):=mS.1
    rw [List.pairwise_append] at hl;have:=hl.2.2 z hz r (List.mem_cons_of_mem _ (List.mem_cons_self ..));rw [yL] at this;grind
   refine D2 ⟨pJ h q,GO hq,fun v hv=>?_⟩
   rw [oU];have JA:=hB q (List.mem_cons_self ..);rcases List.mem_append.1 hv with hv | hv
   ·rcases List.mem_cons.1 hv with rfl | hv
    ·exact qh _ _
    ·have DV:=hB v hv;rw [dG] at DV JA ⊢;have Ir:r.1 - h.1≠0∨r.2 - h.2≠0:=by
      by_cases x:r.1 - h.1=0
      ·right; exact fun y=>hr (Prod.ext (by grind) (by grind))
      ·exact .inl x
     rcases Ir with x | x
     ·have:(r.1 - h.1)*((q.1 - h.1)*(v.2 - h.2) - (q.2 - h.2)*(v.1 - h.1))=0:=by grind
      exact (Rat.mul_eq_zero.1 this).resolve_left x
     ·have:(r.2 - h.2)*((q.1 - h.1)*(v.2 - h.2) - (q.2 - h.2)*(v.1 - h.1))=0:=by grind
      exact (Rat.mul_eq_zero.1 this).resolve_left x
   ·rcases List.mem_cons.1 hv with rfl | hv
    ·exact qh _ _
    ·exact hD v hv
theorem R5 {α:Type} {R:α→α→Prop} (has:∀ a b,R a b→¬ R b a):∀ {l m:List α},l.Pairwise R→m.Pairwise R→(∀ x,x∈l↔x∈m)→l=m:=by
 intro l
 induction l with
 | nil =>
  intro m _ _ h;cases m with
  | nil=>rfl
  | cons b m=>have:=(h b).2 (List.mem_cons_self ..); cases this
 | cons a l ih =>
  intro m hl hm h;cases m with
  | nil=>have:=(h a).1 (List.mem_cons_self ..); cases this
  | cons b m =>
   rw [List.pairwise_cons] at hl hm;have Rk:∀ x,¬ R x x:=fun x hx=>has x x hx hx
   have dJ:a=b:=by
    rcases List.mem_cons.1 ((h a).1 (List.mem_cons_self ..)) with e | e
    ·exact e
    ·rcases List.mem_cons.1 ((h b).2 (List.mem_cons_self ..)) with e2 | e2
     ·exact e2.symm
     ·exact absurd (hl.1 b e2) (has _ _ (hm.1 a e))
   subst dJ;rw [ih hl.2 hm.2 fun x=>⟨fun hx=>?_,fun hx=>?_⟩]
   ·rcases List.mem_cons.1 ((h x).1 (List.mem_cons_of_mem _ hx)) with e | e
    ·subst e; exact absurd (hl.1 _ hx) (Rk _)
    ·exact e
   ·rcases List.mem_cons.1 ((h x).2 (List.mem_cons_of_mem _ hx)) with e | e
    ·subst e; exact absurd (hm.1 _ hx) (Rk _)
    ·exact e
theorem A1 {P:List Q2} {a b c:Q2} (ha:fY P a) (hb:fY P b) (hc:fY P c) (dJ:a≠b) (AE:a≠c) (pE:b≠c):ao a b c≠0:=fun h=>by
 obtain ⟨s,Rj,pG⟩:∃ s:Rat,c.1 - a.1=s*(b.1 - a.1)∧c.2 - a.2=s*(b.2 - a.2):=by
  rw [dG] at h;by_cases hx:b.1 - a.1=0
  ·have hy:b.2 - a.2≠0:=fun hy=>dJ (Prod.ext (by grind) (by grind))
   refine ⟨(c.2 - a.2) / (b.2 - a.2),?_,?_⟩
   ·rw [hx] at h ⊢;have:(b.2 - a.2)*(c.1 - a.1)=0:=by grind
    have:=(Rat.mul_eq_zero.1 this).resolve_left hy;grind
   ·rw [Rat.div_def]; grind
  ·refine ⟨(c.1 - a.1) / (b.1 - a.1),?_,?_⟩
   ·rw [Rat.div_def]; grind
   ·rw [Rat.div_def];have h0:(b.1 - a.1)*((c.2 - a.2) - ((c.1 - a.1)*(b.1 - a.1)⁻¹*(b.2 - a.2)))=0:=by grind
    have:=(Rat.mul_eq_zero.1 h0).resolve_left hx;grind
 have h0:s≠0:=fun e=>by subst e; exact AE (Prod.ext (by grind) (by grind))
 have h1:s≠1:=fun e=>by subst e; exact pE (Prod.ext (by grind) (by grind))
 have inv:∀ x:Rat,0 < x→0 < x⁻¹∧x⁻¹*x=1:=fun x hx=>by
  have e:x⁻¹*x=1:=by grind
  refine ⟨?_,e⟩;by_cases h1:0 < x⁻¹
  ·exact h1
  ·have:=Rat.mul_nonneg (show 0≤-x⁻¹ by grind) (show 0≤x by grind)
   grind
 rcases Rh s with h | h | h
 ·-- a lies between c and b
  obtain ⟨i0,i1⟩:=inv (1 - s) (by grind)
  refine ha.Bi hc.1 hb.1 (Ne.symm AE) (Ne.symm dJ) (t:=(-s)*(1 - s)⁻¹) (Rat.mul_pos (by grind) i0) ?_ ?_
  ·grind
  ·unfold atR; exact Prod.ext (by grind) (by grind)
 ·exact h0 h
 ·by_cases J:s < 1
  ·-- c lies between a and b
   refine hc.Bi ha.1 hb.1 AE pE h J ?_;unfold atR; exact Prod.ext (by grind) (by grind)
  ·obtain ⟨i0,i1⟩:=inv s h;refine hb.Bi ha.1 hc.1 dJ (Ne.symm pE) (t:=s⁻¹) i0 ?_ ?_
   ·have:=Rat.mul_pos i0 (show 0 < s - 1 by grind); grind
   ·unfold atR; exact Prod.ext (by grind) (by grind)
theorem K2 {P:List Q2} {h:Q2} {A B:List Q2} (hA:bD (h::A)) (hB:bD (h::B)) (nA:(h::A).Nodup) (nB:(h::B).Nodup) (eA:∀ v,v∈h::A↔fY P v) (eB:∀ v,v∈h::B↔fY P v):A=B:=by
 have key:∀ {A:List Q2},bD (h::A)→(h::A).Nodup→(∀ v,v∈h::A↔fY P v)→A.Pairwise (fun a b=>0 < ao h a b):=by
  intro A hA nA eA;rw [List.nodup_cons] at nA;have h1:List.Pairwise (fun a b=>0≤ao h a b) A:=hA.1
  have J:List.Pairwise (fun a b=>a≠b) A:=nA.2
  have h3:=List.Pairwise.and_mem.1 (h1.and J);refine h3.imp fun {a b} ⟨ha,hb,h4,h5⟩=>?_
  have:=A1 ((eA h).1 (List.mem_cons_self ..)) ((eA a).1 (List.mem_cons_of_mem _ ha)) ((eA b).1 (List.mem_cons_of_mem _ hb)) (fun e=>nA.1 (e ▸ ha)) (fun e=>nA.1 (e ▸ hb)) h5
  grind
 rw [List.nodup_cons] at nA nB;refine R5 (R:=fun a b=>0 < ao h a b) (fun a b x y=>by rw [yL] at y; grind) (key hA (List.nodup_cons.2 nA) eA) (key hB (List.nodup_cons.2 nB) eB) fun x=>?_
 constructor
 ·intro hx;have:=(eB x).2 ((eA x).1 (List.mem_cons_of_mem _ hx));rcases List.mem_cons.1 this with e | e
  ·subst e; exact absurd hx nA.1
  ·exact e
 ·intro hx;have:=(eA x).2 ((eB x).1 (List.mem_cons_of_mem _ hx));rcases List.mem_cons.1 this with e | e
  ·subst e; exact absurd hx nB.1
  ·exact e
open Go
def au (l:List Q2) (k:Nat):Q2:=l.getD k (0,0)
theorem gO {l:List Q2} {k:Nat} (h:k < l.length):l[k]?=some (au l k):=by
 unfold au; rw [List.getD_eq_getElem?_getD,List.getElem?_eq_getElem h]; rfl
theorem sf {l:List Q2} {k:Nat} {p:Q2} (h:l[k]?=some p):au l k=p:=by
 unfold au; rw [List.getD_eq_getElem?_getD,h]; rfl
theorem eL {l:List Q2} {k:Nat} (h:k < l.length):au l k∈l:=List.mem_of_getElem? (gO h)
theorem qi {l:List Q2} {v:Q2} (h:v∈l):∃ k,k < l.length∧au l k=v:=by
 obtain ⟨k,hk,rfl⟩:=List.getElem_of_mem h;exact ⟨k,hk,sf (List.getElem?_eq_getElem hk)⟩
def aZ (n k:Nat):Nat:=(k+1) % n
def dB (n k:Nat):Nat:=(k+n - 1) % n
theorem cJ {n k:Nat} (h:k < n):aZ n k < n:=Nat.mod_lt _ (by omega)
theorem ju {n k:Nat} (h:k < n):dB n k < n:=Nat.mod_lt _ (by omega)
theorem Ci {n k:Nat} (h:k < n):aZ n (dB n k)=k:=by
 unfold aZ dB;rw [Nat.mod_add_mod,show k+n - 1+1=k+n by omega,Nat.add_mod_right,Nat.mod_eq_of_lt h]
theorem Cj {n k:Nat} (h:k < n):dB n (aZ n k)=k:=by
 unfold aZ dB;rcases Nat.lt_or_eq_of_le (show k+1≤n from h) with h1 | h1
 ·rw [Nat.mod_eq_of_lt h1,show k+1+n - 1=k+n by omega,Nat.add_mod_right,Nat.mod_eq_of_lt h]
 ·rw [h1,Nat.mod_self,show 0+n - 1=k by omega,Nat.mod_eq_of_lt h]
theorem xn {n k:Nat} (h:k < n) (hn:1 < n):aZ n k≠k:=fun e=>by
 unfold aZ at e;rcases Nat.lt_or_eq_of_le (show k+1≤n from h) with h1 | h1
 ·rw [Nat.mod_eq_of_lt h1] at e; omega
 ·rw [h1,Nat.mod_self] at e; omega
theorem OT {n k:Nat} (h:k < n) (hn:1 < n):dB n k≠k:=fun e=>by
 have h1:=Ci h;rw [e] at h1;exact xn h hn h1
theorem lC {l:List Q2} {k:Nat} (h:k < l.length):(au l k,au l (aZ l.length k))∈bc l:=List.mem_of_getElem? (pX (gO h) (gO (cJ h)))
theorem rV {l:List Q2} {k:Nat} (h:k < l.length):(au l (dB l.length k),au l k)∈bc l:=by
 have:=lC (l:=l) (ju h)
 rwa [Ci h] at this
theorem BW {l:List Q2} {e:Q2 × Q2} (h:e∈bc l):∃ k,k < l.length∧e=(au l k,au l (aZ l.length k)):=by
 obtain ⟨i,hi,rfl⟩:=List.getElem_of_mem h;have aR:i < l.length:=by rwa [nM] at hi
 refine ⟨i,aR,?_⟩;have:=pX (gO aR) (gO (cJ aR));rw [List.getElem?_eq_getElem hi] at this;exact Option.some.inj this
def nd (l:List Q2) (k:Nat):Prop:=1 < l.length∧(au l k=au l (aZ l.length k)∨2 < l.length∧ao (au l (dB l.length k)) (au l k) (au l (aZ l.length k))=0)
instance (l:List Q2) (k:Nat):Decidable (nd l k):=inferInstanceAs (Decidable (_∧_))
def lE (l:List Q2):Option Nat:=(List.range l.length).find? fun k=>decide (nd l k)
def Hi:Nat→List Q2→List Q2
 | 0,l=>l
 | n+1,l=>match lE l with | none=>l | some k=>Hi n (l.eraseIdx k)
def fM (l:List Q2):List Q2:=Hi l.length l
theorem So {l:List Q2} (h:∀ k,k < l.length→¬ nd l k):lE l=none:=by
 unfold lE;rw [List.find?_eq_none];intro k hk
 simpa using h k (List.mem_range.1 hk)
theorem R6 {l:List Q2} (h:lE l=none):∀ k,k < l.length→¬ nd l k:=fun k hk=>by
 unfold lE at h;rw [List.find?_eq_none] at h
 simpa using h k (List.mem_range.2 hk)
theorem ED {l:List Q2} {k:Nat} (h:lE l=some k):k < l.length∧nd l k:=by
 unfold lE at h;rw [List.find?_range_eq_some] at h;exact ⟨List.mem_range.1 h.2.1,by simpa using h.1⟩
theorem EU {l:List Q2} (h:lE l=none):fM l=l:=by
 unfold fM;cases l with
 | nil=>rfl
 | cons a l=>show (match lE (a::l) with | none=>_ | some k=>_)=_; rw [h]
theorem EV {l:List Q2} {k:Nat} (h:lE l=some k):fM l=fM (l.eraseIdx k):=by
 have hk:=(ED h).1;unfold fM;rw [List.length_eraseIdx_of_lt hk];obtain ⟨n,hn⟩:∃ n,l.length=n+1:=⟨l.length - 1,by omega⟩
 rw [hn];show (match lE l with | none=>l | some k=>Hi n (l.eraseIdx k))=_
 rw [h]; rfl
theorem FG {C:List Q2→Prop} (hs:∀ l k,lE l=some k→C (l.eraseIdx k)→C l) (h0:∀ l,lE l=none→C l):∀ (n:Nat) (l:List Q2),l.length=n→C l:=by
 intro n
 induction n with
 | zero=>intro l hl; exact h0 l (So fun k hk=>by omega)
 | succ n ih =>
  intro l hl;cases e:lE l with
  | none=>exact h0 l e
  | some k=>exact hs l k e (ih _ (by rw [List.length_eraseIdx_of_lt (ED e).1]; omega))
theorem FH (l:List Q2):(fM l).Sublist l :=
 FG (C:=fun l=>(fM l).Sublist l) (fun l k h hc=>by rw [EV h]; exact hc.trans (List.eraseIdx_sublist ..)) (fun l h=>by rw [EU h]; exact List.Sublist.refl _) _ l rfl
theorem Nh (l:List Q2):∀ k,k < (fM l).length→¬ nd (fM l) k :=
 FG (C:=fun l=>∀ k,k < (fM l).length→¬ nd (fM l) k) (fun l k h hc=>by rw [EV h]; exact hc) (fun l h=>by rw [EU h]; exact R6 h) _ l rfl
theorem mem_erase {l:List Q2} {k j:Nat} (hj:j < l.length) (h:j≠k):au l j∈l.eraseIdx k:=by
 rw [List.mem_eraseIdx_iff_getElem?];exact ⟨j,h,gO hj⟩
theorem TO {l:List Q2} {k:Nat} {v:Q2} (h:v∈l):v∈l.eraseIdx k∨(k < l.length∧v=au l k):=by
 obtain ⟨j,hj,rfl⟩:=qi h;by_cases e:j=k
 ·subst e; exact .inr ⟨hj,rfl⟩
 ·exact .inl (mem_erase hj e)
theorem Ge {f:Q3} {a b:Q2} {t:Rat} (ha:aq f a=0) (hb:aq f b=0):aq f (atR a b t)=0:=by rw [yM,ha,hb]; grind
theorem TP {l:List Q2} {k:Nat} (hT:bD l) (hF:¬ Flat l) (hk:k < l.length) (h:nd l k):g7 (l.eraseIdx k) l∧¬ Flat (l.eraseIdx k):=by
 obtain ⟨h1,J⟩:=h;have key:∀ (P:Q2→Prop),(∀ v∈l.eraseIdx k,P v)→(∀ a b t,P a→P b→0 < t→t < 1→P (atR a b t))→∀ v∈l,P v:=by
  intro P hP hm v hv;rcases TO (k:=k) hv with h | ⟨_,rfl⟩
  ·exact hP v h
  ·by_cases e1:au l k=au l (aZ l.length k)
   ·rw [e1]; exact hP _ (mem_erase (cJ hk) (xn hk h1))
   ·by_cases e2:au l (dB l.length k)=au l k
    ·rw [← e2]; exact hP _ (mem_erase (ju hk) (OT hk h1))
    ·rcases J with J | ⟨J,h3⟩
     ·exact absurd J e1
     ·obtain ⟨t,t0,t1,ht⟩:=LF hT hF (rV hk) (lC hk) e2 e1 h3;rw [ht];exact hm _ _ _ (hP _ (mem_erase (ju hk) (OT hk h1))) (hP _ (mem_erase (cJ hk) (xn hk h1))) t0 t1
 refine ⟨fun p=>⟨fun hp=>hp.mono fun v hv=>(List.eraseIdx_sublist ..).subset hv,fun hp=>hp.trans ?_⟩,fun ⟨f,hf,hz⟩=>hF ⟨f,hf,?_⟩⟩
 ·exact key _ (fun v hv=>.my hv) fun a b t ha hb t0 t1=>ha.at hb (by grind) (by grind)
 ·exact key _ hz fun a b t ha hb _ _=>Ge ha hb
theorem Fe {l:List Q2} (hT:bD l) (hF:¬ Flat l):g7 (fM l) l∧¬ Flat (fM l) :=
 FG (C:=fun l=>bD l→¬ Flat l→g7 (fM l) l∧¬ Flat (fM l)) (fun l k h hc hT hF=>by
  rw [EV h];have J:=ED h;obtain ⟨a,b⟩:=TP hT hF J.1 J.2;obtain ⟨c,d⟩:=hc (hT.sublist (List.eraseIdx_sublist ..)) b;exact ⟨c.trans a,d⟩) (fun l h hT hF=>by rw [EU h]; exact ⟨.rfl',hF⟩) _ l rfl hT hF
theorem Ck {P:List Q2} (h:Flat P) {a b c:Q2} (ha:a∈P) (hb:b∈P) (hc:c∈P):ao a b c=0:=by
 obtain ⟨f,hf,hz⟩:=h;have x:=hz a ha;have y:=hz b hb;have z:=hz c hc;rw [gq] at x y z;rw [dG];by_cases h0:f.1=0
 ·have h1:f.2.1≠0:=fun e=>hf ⟨h0,e⟩
  have e:f.2.1*((b.1 - a.1)*(c.2 - a.2) - (b.2 - a.2)*(c.1 - a.1))=0:=by grind
  exact (Rat.mul_eq_zero.1 e).resolve_left h1
 ·have e:f.1*((b.1 - a.1)*(c.2 - a.2) - (b.2 - a.2)*(c.1 - a.1))=0:=by grind
  exact (Rat.mul_eq_zero.1 e).resolve_left h0
theorem EK (a b:Q2):∃ f:Q3,mR f∧aq f a=0∧aq f b=0:=by
 by_cases h:a=b
 ·subst h;exact ⟨(1,0,a.1),fun h=>absurd (show (1:Rat)=0 from h.1) (by decide),by rw [gq]; grind,by rw [gq]; grind⟩
 ·exact ⟨pJ a b,GO h,by rw [oU,qh],by rw [oU,oT]⟩
theorem TQ {P:List Q2} (h:P.length≤2):Flat P:=by
 match P,h with
 | [],_=>exact ⟨(1,0,0),fun h=>absurd h.1 (by decide),fun v hv=>by cases hv⟩
 | [a],_ =>
  obtain ⟨f,hf,h1,_⟩:=EK a a;exact ⟨f,hf,fun v hv=>by simp at hv; rw [hv]; exact h1⟩
 | [a,b],_ =>
  obtain ⟨f,hf,h1,J⟩:=EK a b;exact ⟨f,hf,fun v hv=>by simp at hv; rcases hv with rfl | rfl <;> assumption⟩
 | _::_::_::_,h=>simp at h
theorem TR {l:List Q2} (hF:Flat l):(fM l).length≤2:=by
 refine Decidable.byContradiction fun h=>?_
 have h0:=Nh l 0 (by omega)
 refine h0 ⟨by omega,.inr ⟨by omega,?_⟩⟩
 have D2:Flat (fM l):=hF.mono fun v hv=>(FH l).subset hv
 exact Ck D2 (eL (ju (by omega))) (eL (by omega)) (eL (cJ (by omega)))
structure Ring (P:List Q2):Prop where
 eh:bD P
 three:3≤P.length
 sh:∀ k,k < P.length→0 < ao (au P (dB P.length k)) (au P k) (au P (aZ P.length k))
theorem Ring.ne {P:List Q2} (h:Ring P):∀ e∈bc P,e.1≠e.2:=fun e he=>by
 obtain ⟨k,hk,rfl⟩:=BW he;intro e2;have:=h.sh k hk;simp only at e2;rw [e2,oT] at this;grind
theorem Ring.ext {P:List Q2} (h:Ring P) {v:Q2}:v∈P↔fY P v:=by
 refine ⟨fun hv=>?_,fY.mem⟩
 obtain ⟨k,hk,rfl⟩:=qi hv;have:=h.sh k hk;exact LD h.eh (rV hk) (lC hk) (by grind)
theorem Ring.acL {P:List Q2} (h:Ring P):¬ Flat P:=fun hF=>by
 have hk:0 < P.length:=by have:=h.three; omega
 have:=h.sh 0 hk;rw [Ck hF (eL (ju hk)) (eL hk) (eL (cJ hk))] at this;grind
theorem Ring.nodup {P:List Q2} (h:Ring P):P.Nodup:=LG h.eh h.acL h.ne
theorem Xw {P:List Q2} (hT:bD P) (hF:¬ Flat P) (hn:∀ k,k < P.length→¬ nd P k):Ring P:=by
 have h3:3≤P.length:=Decidable.byContradiction fun h=>hF (TQ (by omega))
 refine ⟨hT,h3,fun k hk=>?_⟩
 have a:=oO hT (rV hk) (eL (cJ hk));have b:ao (au P (dB P.length k)) (au P k) (au P (aZ P.length k))≠0:=fun e=>hn k hk ⟨by omega,.inr ⟨by omega,e⟩⟩
 grind
theorem LH {l:List Q2} (hT:bD l) (hF:¬ Flat l):Ring (fM l):=Xw (hT.sublist (FH l)) (Fe hT hF).2 (Nh l)
def nQ (l:List Q2):Nat→Nat
 | 0=>0
 | i+1=>if fR (au l i) (au l (nQ l i)) < 0 then i else nQ l i
def qC (l:List Q2):Nat:=nQ l l.length
def eV (l:List Q2):List Q2:=l.drop (qC l)++l.take (qC l)
def iI (a b:Q2):Prop:=a.1 < b.1∨a.1=b.1∧a.2≤b.2
theorem uC {a b:Q2}:iI a b↔¬ fR b a < 0:=by
 unfold iI fR;rcases Br (b.1 - a.1) with ⟨h1,J⟩ | ⟨h1,J⟩ | ⟨h1,J⟩
 ·rw [Gc b.1 a.1,J];constructor
  ·rintro (h | ⟨h,_⟩) <;> grind
  ·intro h; exact absurd (by rw [if_pos (by decide)]; decide) h
 ·rw [Gc b.1 a.1,J,if_neg (by decide),Gb]
  constructor
  ·rintro (h | ⟨h,h3⟩) <;> grind
  ·intro h; right; exact ⟨by grind,by grind⟩
 ·rw [Gc b.1 a.1,J];constructor
  ·intro _; rw [if_pos (by decide)]; decide
  ·intro _; left; grind
theorem U1 {a b c:Q2} (h:iI a b) (g:iI b c):iI a c:=by unfold iI at *; grind
theorem Ni {a b:Q2} (h:iI a b) (g:iI b a):a=b:=by
 unfold iI at *;exact Prod.ext (by grind) (by grind)
theorem Wj (a:Q2):iI a a:=by unfold iI; right; exact ⟨rfl,by grind⟩
theorem U2 {a b:Q2} (h:¬ iI a b):iI b a:=by unfold iI at *; grind
theorem KH (l:List Q2):∀ i,i≤l.length→(0 < l.length→nQ l i < l.length)∧(∀ j,j < i→iI (au l (nQ l i)) (au l j)):=by
 intro i
 induction i with
 | zero=>intro _; exact ⟨fun h=>h,fun j hj=>absurd hj (Nat.not_lt_zero _)⟩
 | succ i ih =>
  intro hi;obtain ⟨h1,J⟩:=ih (by omega)
  unfold nQ
  split
  ·rename_i hc;have hle:iI (au l i) (au l (nQ l i)):=U2 fun h=>(uC.1 h) hc
   refine ⟨fun _=>by omega,fun j hj=>?_⟩
   rcases Nat.lt_or_eq_of_le (Nat.le_of_lt_succ hj) with h | h
   ·exact U1 hle (J j h)
   ·subst h; exact Wj _
  ·rename_i hc;refine ⟨h1,fun j hj=>?_⟩
   rcases Nat.lt_or_eq_of_le (Nat.le_of_lt_succ hj) with h | h
   ·exact J j h
   ·subst h; exact uC.2 hc
theorem uk {l:List Q2} {v:Q2}:v∈eV l↔v∈l:=by
 unfold eV;rw [List.mem_append];constructor
 ·rintro (h | h)
  ·exact List.mem_of_mem_drop h
  ·exact List.mem_of_mem_take h
 ·intro h;rw [← List.take_append_drop (qC l) l,List.mem_append] at h;exact h.symm
theorem Bj (l:List Q2):(eV l).length=l.length:=by
 unfold eV;rw [List.length_append,List.length_drop,List.length_take]; omega
theorem FI {l:List Q2} (h:bD l):bD (eV l):=bD.tw (by rw [List.take_append_drop]; exact h)
theorem Ff {l:List Q2} (h:l.Nodup):(eV l).Nodup:=by
 have hp:(eV l).Perm l:=by
  unfold eV;refine List.perm_append_comm.trans ?_;rw [List.take_append_drop]
 exact hp.nodup_iff.2 h
theorem FJ {l:List Q2} (h:l≠[]):∃ a A,eV l=a::A∧∀ v∈l,iI a v:=by
 have hl:0 < l.length:=List.length_pos_iff.2 h;have hs:=KH l l.length (Nat.le_refl _);refine ⟨au l (qC l),l.drop (qC l+1)++l.take (qC l),?_,fun v hv=>?_⟩
 ·unfold eV;have al:qC l < l.length:=hs.1 hl;rw [List.drop_eq_getElem_cons al];have:l[qC l]'al=au l (qC l):=by
   have:=gO al;rw [List.getElem?_eq_getElem al] at this;exact Option.some.inj this
  rw [List.cons_append,this]
 ·obtain ⟨j,hj,rfl⟩:=qi hv;exact hs.2 j hj
theorem Sp {P A B:List Q2} (hA:bD A) (hB:bD B) (nA:A.Nodup) (nB:B.Nodup) (eA:∀ v,v∈A↔fY P v) (eB:∀ v,v∈B↔fY P v):eV A=eV B:=by
 by_cases x8:A=[]
 ·subst x8;have:B=[]:=by
   cases B with
   | nil=>rfl
   | cons b B=>have:=(eA b).2 ((eB b).1 (List.mem_cons_self ..)); cases this
  rw [this]
 ·have hB0:B≠[]:=fun e=>by
   subst e;cases A with
   | nil=>exact x8 rfl
   | cons b B=>have:=(eB b).2 ((eA b).1 (List.mem_cons_self ..)); cases this
  obtain ⟨a,A',ha,la⟩:=FJ x8;obtain ⟨b,B',hb,lb⟩:=FJ hB0;have ha':a∈A:=uk.1 (by rw [ha]; exact List.mem_cons_self ..)
  have bB:b∈B:=uk.1 (by rw [hb]; exact List.mem_cons_self ..)
  have dJ:a=b:=Ni (la b ((eA b).2 ((eB b).1 bB))) (lb a ((eB a).2 ((eA a).1 ha')));subst dJ;rw [ha,hb]
  congr 1
  refine K2 (P:=P) (h:=a) (by rw [← ha]; exact FI hA) (by rw [← hb]; exact FI hB) (by rw [← ha]; exact Ff nA) (by rw [← hb]; exact Ff nB) (fun v=>?_) (fun v=>?_)
  ·rw [← ha,uk]; exact eA v
  ·rw [← hb,uk]; exact eB v
theorem fY.iff {P Q:List Q2} (h:g7 P Q) (v:Q2):fY P v↔fY Q v:=⟨fun x=>x.same h,fun x=>x.same h.symm⟩
open Go
theorem oR {a b:Q2}:fR a b=0↔a=b:=UX.trans ⟨fun h=>Prod.ext h.1 h.2,fun h=>by rw [h]; exact ⟨rfl,rfl⟩⟩
def nk (e:Q2 × Q2):List Q2:=if fR e.1 e.2≠0 then [e.1] else []
def gL (l:List Q2):List Q2:=(bc l).flatMap nk
def n3 (l:List Q2) (i:Nat):List Q2:=if ao (au l (dB l.length i)) (au l i) (au l (aZ l.length i))≠0 then [au l i] else []
def jL (l:List Q2):List Q2:=(List.range l.length).flatMap (n3 l)
def gf (l:List Q2):List Q2:=if (jL (gL l)).length < 3 then [] else eV (jL (gL l))
theorem EW {α β:Type} (g:α→β) (f:α→List β) (h:∀ a,(f a).Sublist [g a]):∀ l:List α,(l.flatMap f).Sublist (l.map g)
 | []=>.slnil
 | a::l=>by
  rw [List.flatMap_cons,List.map_cons];exact (h a).append (EW g f h l)
theorem U3 {α:Type} (l:List α):(bc l).map Prod.fst=l:=by
 refine List.ext_getElem (by rw [List.length_map,nM]) fun i h1 J=>?_
 have h3:(i+1) % l.length < l.length:=Nat.mod_lt _ (by omega)
 have:=pX (List.getElem?_eq_getElem J) (List.getElem?_eq_getElem h3);rw [List.getElem_map];rw [List.length_map] at h1;rw [List.getElem?_eq_getElem h1] at this;rw [Option.some.inj this]
theorem yk (l:List Q2):(gL l).Sublist l:=by
 have:=EW Prod.fst nk (fun e=>by
  unfold nk
  split
  ·exact List.Sublist.refl _
  ·exact List.nil_sublist _) (bc l)
 rw [U3] at this;exact this
theorem Xx (l:List Q2):(List.range l.length).map (au l)=l:=by
 refine List.ext_getElem (by simp) fun i h1 J=>?_
 simp;exact sf (List.getElem?_eq_getElem J)
theorem Bk (l:List Q2):(jL l).Sublist l:=by
 have:=EW (au l) (n3 l) (fun e=>by
  unfold n3
  split
  ·exact List.Sublist.refl _
  ·exact List.nil_sublist _) (List.range l.length)
 rw [Xx] at this;exact this
theorem Xy (z:Q2):∀ (L:List Q2) (a:Q2),(a::L).getLast?=some z→((cc (a::L)).flatMap nk++[z]).head?=some a∧∀ e∈cc ((cc (a::L)).flatMap nk++[z]),e.1≠e.2:=by
 intro L
 induction L with
 | nil =>
  intro a h;simp at h;subst h;exact ⟨rfl,fun e he=>by cases he⟩
 | cons b L ih =>
  intro a h;obtain ⟨h1,J⟩:=ih b (by rw [List.getLast?_cons_cons] at h; exact h)
  rw [lu,List.flatMap_cons,List.append_assoc];obtain ⟨X,hX⟩:∃ X,X=(cc (b::L)).flatMap nk++[z]:=⟨_,rfl⟩;rw [← hX] at h1 J ⊢;unfold nk;by_cases dJ:a=b
  ·rw [if_neg (by simp only [ne_eq]; exact fun h=>h (oR.2 dJ))]
   rw [dJ]; exact ⟨h1,J⟩
  ·rw [if_pos (fun h=>dJ (oR.1 h))]
   refine ⟨rfl,?_⟩;cases X with
   | nil=>simp at h1
   | cons c X =>
    simp at h1;subst h1;intro e he;rw [show [(a,c).1]++c::X=a::c::X from rfl,lu] at he
    rcases List.mem_cons.1 he with rfl | he
    ·exact dJ
    ·exact J e he
theorem K3 (l:List Q2):∀ e∈bc (gL l),e.1≠e.2:=by
 cases l with
 | nil=>intro e he; cases he
 | cons h B =>
  obtain ⟨h1,J⟩:=Xy h (B++[h]) h (by rw [← List.cons_append,List.getLast?_append]; rfl)
  have hd:gL (h::B)=(cc (h::(B++[h]))).flatMap nk:=rfl;rw [← hd] at h1 J;cases hD:gL (h::B) with
  | nil=>intro e he; cases he
  | cons d D =>
   rw [hD] at h1 J;simp at h1;subst h1;intro e he;exact J e he
theorem K4 {α:Type} {l m:List α} {e:α × α} (h:e∈cc l):e∈cc (l++m):=by
 obtain ⟨A,B,rfl⟩:=KG h;rw [List.append_assoc,List.cons_append,tX];exact List.mem_append_right _ (List.mem_cons_self ..)
theorem leave {v:Q2}:∀ (l:List Q2),(∃ w∈l,w≠v)→∃ y,(v,y)∈cc (v::l)∧v≠y:=by
 intro l
 induction l with
 | nil=>rintro ⟨w,hw,_⟩; cases hw
 | cons b l ih =>
  rintro ⟨w,hw,aJ⟩
  by_cases hb:b=v
  ·subst hb;rcases List.mem_cons.1 hw with rfl | hw
   ·exact absurd rfl aJ
   ·obtain ⟨y,h1,J⟩:=ih ⟨w,hw,aJ⟩;exact ⟨y,List.mem_cons_of_mem _ h1,J⟩
  ·exact ⟨b,List.mem_cons_self ..,Ne.symm hb⟩
theorem KI {l:List Q2} (hF:¬ Flat l) {v:Q2}:v∈gL l↔v∈l:=by
 refine ⟨fun h=>(yk l).subset h,fun h=>?_⟩
 obtain ⟨w,hw,aJ⟩:∃ w∈l,w≠v:=by
  refine Decidable.byContradiction fun hn=>hF ?_
  obtain ⟨f,hf,h1,_⟩:=EK v v;exact ⟨f,hf,fun x hx=>by
   have:x=v:=Decidable.byContradiction fun h=>hn ⟨x,hx,h⟩
   rw [this]; exact h1⟩
 obtain ⟨A,B,rfl⟩:=List.append_of_mem h;obtain ⟨y,h1,J⟩:=leave (v:=v) (B++A) ⟨w,by
  rcases List.mem_append.1 hw with h | h
  ·exact List.mem_append_right _ h
  ·rcases List.mem_cons.1 h with h | h
   ·exact absurd h aJ
   ·exact List.mem_append_left _ h,aJ⟩
 have he:(v,y)∈bc (A++v::B):=yB (A:=v::B) (K4 (m:=[v]) h1);unfold gL;refine List.mem_flatMap.2 ⟨_,he,?_⟩;unfold nk;rw [if_pos (fun h=>J (oR.1 h))]
 exact List.mem_cons_self ..
theorem TS {D:List Q2} (hT:bD D) (hF:¬ Flat D) (aJ:∀ e∈bc D,e.1≠e.2) (v:Q2):v∈jL D↔fY D v:=by
 constructor
 ·intro h;unfold jL at h;obtain ⟨i,hi,hv⟩:=List.mem_flatMap.1 h;have hi:=List.mem_range.1 hi;unfold n3 at hv
  split at hv
  ·rename_i hc;simp at hv;rw [hv];exact LD hT (rV hi) (lC hi) hc
  ·cases hv
 ·intro h;obtain ⟨i,hi,rfl⟩:=qi h.mem;unfold jL;refine List.mem_flatMap.2 ⟨i,List.mem_range.2 hi,?_⟩;unfold n3;by_cases hc:ao (au D (dB D.length i)) (au D i) (au D (aZ D.length i))=0
  ·have n1:=aJ _ (rV hi);have n2:=aJ _ (lC hi);obtain ⟨t,t0,t1,ht⟩:=LF hT hF (rV hi) (lC hi) n1 n2 hc;exact absurd ht (h.Bi (.my (eL (ju hi))) (.my (eL (cJ hi))) n1 (Ne.symm n2) t0 t1)
  ·rw [if_pos hc]; exact List.mem_cons_self ..
theorem Xz {P:List Q2} (hT:bD P) (hF:¬ Flat P):gf P=eV (fM P)∧3≤(fM P).length:=by
 have hr:=LH hT hF;have JD:bD (gL P):=hT.sublist (yk P);have D3:¬ Flat (gL P):=fun h=>hF (h.mono fun v hv=>(KI hF).2 hv)
 have hs:g7 (gL P) P:=.my fun v=>KI hF
 have fh:=LG JD D3 (K3 P);have eC:∀ v,v∈jL (gL P)↔fY P v:=fun v=>(TS JD D3 (K3 P) v).trans (fY.iff hs v)
 have eR:∀ v,v∈fM P↔fY P v:=fun v=>hr.ext.trans (fY.iff (Fe hT hF).1 v)
 have he:=Sp (JD.sublist (Bk _)) hr.eh (fh.sublist (Bk _)) hr.nodup eC eR;refine ⟨?_,hr.three⟩;unfold gf;have hl:=congrArg List.length he;rw [Bj,Bj] at hl;rw [if_neg (by have:=hr.three; omega),he]
theorem U4 {P:List Q2} (hF:Flat P):gf P=[]∧(fM P).length < 3:=by
 refine ⟨?_,by have:=TR hF; omega⟩
 have D3:Flat (gL P):=hF.mono fun v hv=>(yk P).subset hv
 have:jL (gL P)=[]:=by
  unfold jL;rw [List.flatMap_eq_nil_iff];intro i hi;have hi:=List.mem_range.1 hi;unfold n3;rw [if_neg (by simp only [ne_eq]; exact fun h=>h (Ck D3 (eL (ju hi)) (eL hi) (eL (cJ hi))))]
 unfold gf;rw [this,if_pos (by decide)]
abbrev Q4:=Q2 × Q2
def ael (b:Q4):List Q2:=[b.1,(b.2.1,b.1.2),b.2,(b.1.1,b.2.2)]
def okB (b:Q4):Prop:=b.1.1≤b.2.1∧b.1.2≤b.2.2
def Qj (b:Q4) (p:Q2):Prop:=b.1.1≤p.1∧p.1≤b.2.1∧b.1.2≤p.2∧p.2≤b.2.2
def HM (b:Q4) (l:List Q3):List Q2:=l.foldl (fun P m=>dk m P) (ael b)
open Go
def mT (S:Q3→Prop) (e:Q2 × Q2):Prop:=∃ m,S m∧mR m∧aq m e.1=0∧aq m e.2=0
theorem aan {l m:Q3} {x:Q2} (hx:aq l x=0) (hy:aq m x=0) (h:qT l m≠0):x=Iw l m:=by
 unfold qT at h;have e:qT l m=nT (rB l) (rB m):=rfl;rw [show nT (rB l) (rB m)=l.1*m.2.1 - l.2.1*m.1 from rfl] at h e
 rw [gq] at hx hy;unfold Iw;rw [e];refine Prod.ext ?_ ?_
 ·show x.1=_
  rw [Rat.div_def]; grind
 ·show x.2=_
  rw [Rat.div_def]; grind
theorem aao {l m:Q3} {a b:Q2} (hl:mR l) (ha:aq l a=0) (hb:aq l b=0) (h:aq m a≠aq m b):qT l m≠0:=fun e=>by
 rw [show qT l m=l.1*m.2.1 - l.2.1*m.1 from rfl] at e
 rw [gq] at ha hb;rw [gq,gq] at h;by_cases h0:l.1=0
 ·have h1:l.2.1≠0:=fun e=>hl ⟨h0,e⟩
  have:l.2.1*(m.1*a.1+m.2.1*a.2 - m.2.2 - (m.1*b.1+m.2.1*b.2 - m.2.2))=0:=by grind
  have:=(Rat.mul_eq_zero.1 this).resolve_left h1;exact h (by grind)
 ·have:l.1*(m.1*a.1+m.2.1*a.2 - m.2.2 - (m.1*b.1+m.2.1*b.2 - m.2.2))=0:=by grind
  have:=(Rat.mul_eq_zero.1 this).resolve_left h0;exact h (by grind)
def nr (m:Q3) (e:Q2 × Q2):List Q2:=mB m e.1++gY m e.1 e.2
theorem N3 (m:Q3) (l:List Q2):dk m l=(bc l).flatMap (nr m):=rfl
theorem Gf {m:Q3} {a:Q2} (h:0≤aq m a):mB m a=[a]:=by unfold mB; rw [if_pos (nO.2 h)]
theorem Gg {m:Q3} {a:Q2} (h:aq m a < 0):mB m a=[]:=by unfold mB; rw [if_neg (fun J=>by have:=nO.1 J; grind)]
theorem Gh {m:Q3} {a b:Q2} (h:¬ ((0 < aq m a∧aq m b < 0)∨(aq m a < 0∧0 < aq m b))):gY m a b=[]:=by unfold gY; rw [if_neg (fun J=>h (BD.1 J))]
theorem ym {S:Q2 × Q2→Prop} {a:Q2} {X:List Q2} (h:∀ x,X.head?=some x→S (a,x)) (hX:∀ e∈cc X,S e):∀ e∈cc (a::X),S e:=by
 cases X with
 | nil=>intro e he; cases he
 | cons x X =>
  intro e he;rw [lu] at he;rcases List.mem_cons.1 he with rfl | he
  ·exact h x rfl
  ·exact hX e he
theorem Wk {S:Q3→Prop} {m:Q3} (hS:S m) (hm:mR m) (z:Q2):∀ (L:List Q2) (a:Q2),(a::L).getLast?=some z→(∀ e∈cc (a::L),mT S e) →
  ∃ X,(cc (a::L)).flatMap (nr m)++mB m z=X∧(∀ e∈cc X,mT S e)∧(0≤aq m a→X.head?=some a)∧(aq m a < 0→∀ x,X.head?=some x→aq m x=0)∧(aq m z < 0→∀ x,X.getLast?=some x→aq m x=0):=by
 intro L
 induction L with
 | nil =>
  intro a hz D4;simp at hz;subst hz;by_cases ha:0≤aq m a
  ·refine ⟨[a],by rw [Gf ha]; rfl,(fun e he=>by cases he),fun _=>rfl,fun h=>absurd ha (by grind),fun h=>absurd ha (by grind)⟩
  ·exact ⟨[],by rw [Gg (by grind)]; rfl,(fun e he=>by cases he),fun h=>absurd h ha,(fun h x hx=>by cases hx),(fun h x hx=>by cases hx)⟩
 | cons b L ih =>
  intro a hz D4;rw [lu] at D4;obtain ⟨X,hX,h1,J,h3,h4⟩:=ih b (by rw [List.getLast?_cons_cons] at hz; exact hz) fun e he=>D4 e (List.mem_cons_of_mem _ he)
  obtain ⟨k,hk,JE,ka,kb⟩:=D4 (a,b) (List.mem_cons_self ..);rw [lu,List.flatMap_cons,List.append_assoc,hX];show ∃ Y,(mB m a++gY m a b)++X=Y∧_
  have last:∀ Z:List Q2,X≠[]→∀ x,(Z++X).getLast?=some x→X.getLast?=some x:=fun Z aJ x hx=>by
   rw [List.getLast?_append] at hx;cases e:X.getLast? with
   | none=>exact absurd (List.getLast?_eq_none_iff.1 e) aJ
   | some y=>rw [e] at hx; exact hx
  by_cases ha:0≤aq m a
  ·rw [Gf ha];by_cases hb:0≤aq m b
   ·rw [Gh (by grind),List.append_nil]
    have hh:=J hb;refine ⟨a::X,rfl,ym (fun x hx=>?_) h1,fun _=>rfl,fun h=>absurd ha (by grind),fun h x hx=>h4 h x (last [a] (fun e=>by rw [e] at hh; cases hh) x hx)⟩
    rw [hh] at hx; cases hx;exact ⟨k,hk,JE,ka,kb⟩
   ·by_cases h0:aq m a=0
    ·rw [Gh (by grind),List.append_nil]
     refine ⟨a::X,rfl,ym (fun x hx=>⟨m,hS,hm,h0,h3 (by grind) x hx⟩) h1,fun _=>rfl,fun h=>absurd ha (by grind),fun h x hx=>?_⟩
     by_cases AF:X=[]
     ·subst AF; simp at hx; rw [← hx]; exact h0
     ·exact h4 h x (last [a] AF x hx)
    ·have hc:=BE (m:=m) (p:=a) (q:=b) (.inl ⟨by grind,by grind⟩)
     have hs:=tT (x:=atR a b (je m a b)) (by rw [hc]; simp)
     rw [hc];refine ⟨a::atR a b (je m a b)::X,rfl,ym (fun x hx=>?_) (ym (fun x hx=>⟨m,hS,hm,hs.2.2.2.2,h3 (by grind) x hx⟩) h1),fun _=>rfl,fun h=>absurd ha (by grind),fun h x hx=>?_⟩
     ·simp at hx;rw [← hx];exact ⟨k,hk,JE,ka,Ge ka kb⟩
     ·by_cases AF:X=[]
      ·subst AF; simp at hx; rw [← hx]; exact hs.2.2.2.2
      ·exact h4 h x (last [a,atR a b (je m a b)] AF x hx)
  ·rw [Gg (by grind),List.nil_append]
   by_cases hb:0 < aq m b
   ·have hc:=BE (m:=m) (p:=a) (q:=b) (.inr ⟨by grind,by grind⟩)
    have hs:=tT (x:=atR a b (je m a b)) (by rw [hc]; simp)
    have hh:=J (by grind)
    rw [hc];refine ⟨atR a b (je m a b)::X,rfl,ym (fun x hx=>?_) h1,fun h=>absurd h ha,fun _ x hx=>?_,fun h x hx=>h4 h x (last [atR a b (je m a b)] (fun e=>by rw [e] at hh; cases hh) x hx)⟩
    ·rw [hh] at hx; cases hx;exact ⟨k,hk,JE,Ge ka kb,kb⟩
    ·simp at hx; rw [← hx]; exact hs.2.2.2.2
   ·rw [Gh (by grind),List.nil_append]
    refine ⟨X,rfl,h1,fun h=>absurd h ha,fun _ x hx=>?_,h4⟩
    by_cases jm:aq m b=0
    ·have:=J (by grind)
     rw [this] at hx; cases hx; exact jm
    ·exact h3 (by grind) x hx
theorem aap {S:Q3→Prop} {m:Q3} {P:List Q2} (hS:S m) (hm:mR m) (h:∀ e∈bc P,mT S e):∀ e∈bc (dk m P),mT S e:=by
 cases P with
 | nil=>intro e he; cases he
 | cons p P =>
  obtain ⟨X,hX,h1,J,h3,h4⟩:=Wk hS hm p (P++[p]) p (by rw [← List.cons_append,List.getLast?_append]; rfl) h
  have hc:dk m (p::P)=(cc (p::(P++[p]))).flatMap (nr m):=rfl;rw [← hc] at hX;by_cases hp:0≤aq m p
  ·rw [Gf hp] at hX;have hh:=J hp;intro e he;cases hC:dk m (p::P) with
   | nil=>rw [hC] at he; cases he
   | cons c C =>
    rw [hC] at hX he;have:c=p:=by rw [← hX] at hh; simpa using hh
    rw [this] at hX he;rw [wo,hX] at he;exact h1 e he
  ·rw [Gg (by grind),List.append_nil] at hX
   intro e he;cases hC:dk m (p::P) with
   | nil=>rw [hC] at he; cases he
   | cons c C =>
    rw [hC] at he hX;subst hX;rcases List.eq_nil_or_concat C with rfl | ⟨C,d,rfl⟩
    ·have ot:=h3 (by grind) c rfl
     rw [wo] at he;rcases List.mem_cons.1 he with rfl | he
     ·exact ⟨m,hS,hm,ot,ot⟩
     ·cases he
    ·have ot:=h3 (by grind) c rfl
     have fJ:=h4 (by grind) d (by rw [List.concat_eq_append,← List.cons_append,List.getLast?_append]; rfl)
     rw [List.concat_eq_append] at he h1;rw [wo,show c::(C++[d])++[c]=(c::C)++d::[c] by simp,tX] at he
     rcases List.mem_append.1 he with he | he
     ·exact h1 e (by rw [← List.cons_append]; exact he)
     ·rcases List.mem_cons.1 he with rfl | he
      ·exact ⟨m,hS,hm,fJ,ot⟩
      ·cases he
theorem AG {k:Nat} (h:1≤k):QB 0 k:=(zg (n:=0) (by decide)).mono h
theorem qb1 {k:Nat} (h:1≤k):QB 1 k:=(zg (n:=1) (by decide)).mono h
open Go
def ak (L:List Q2):List PV:=L.map bP
def bI (L:List Q2):Nat→List Value:=di (ak L)
theorem rP (L:List Q2):(ak L).length=L.length:=List.length_map ..
theorem aaq {L:List Q2} {k:Nat} (h:k < L.length):(ak L)[k]?=some (bP (au L k)):=by
 unfold ak;rw [List.getElem?_map,gO h]; rfl
theorem Wl {L:List Q2} {k:Nat} (h:k < L.length):bI L k=(bP (au L k)).cells:=by
 unfold bI di;rw [List.getD_eq_getElem?_getD,aaq h]; rfl
theorem iA {L:List Q2} {m k:Nat} (h:k < L.length) (hs:∀ v∈L,Q2.sz m v):∃ u:PV,u=bP (au L k)∧bI L k=u.cells∧u.p=au L k∧u.sz m∧Q2.sz m u.p :=
 ⟨_,rfl,Wl h,gr _,nU (hs _ (eL h)) (Nat.le_refl _),by rw [gr]; exact hs _ (eL h)⟩
theorem XA {a b:Q2} (h:bP a=bP b):a=b:=by rw [← gr a,← gr b,h]
theorem XB {u v:PV} {a b:Q2} (hu:u=bP a) (hv:v=bP b):u=v↔a=b:=by
 subst hu; subst hv;exact ⟨XA,fun h=>by rw [h]⟩
theorem mC {k n:Nat} (hk:k < n) (hn:n≤1099511627776):Int.tmod (IntKind.i64.wrap ((k:Int)+1)) (n:Int)=(aZ n k:Int):=by
 rw [ax (by omega) (by omega)]
 show Int.tmod ((k+1:Nat):Int) (n:Int)=(((k+1) % n:Nat):Int)
 rfl
theorem C7 {k n:Nat} (hk:k < n) (hn:n≤1099511627776):Int.tmod (IntKind.i64.wrap (IntKind.i64.wrap ((k:Int)+(n:Int)) - 1)) (n:Int)=(dB n k:Int):=by
 rw [ax (x:=(k:Int)+n) (by omega) (by omega),ax (by omega) (by omega)]
 have:(k:Int)+n - 1=((k+n - 1:Nat):Int):=by omega
 rw [this]
 rfl
theorem EX {X Y:List Q2} {r s:Nat} (h:X[r]?=Y[s]?):bI X r=bI Y s:=by
 unfold bI di ak;rw [List.getD_eq_getElem?_getD,List.getD_eq_getElem?_getD,List.getElem?_map,List.getElem?_map,h]
theorem Wm {L:List Q2} {m a:Nat} {z:Nat→List Value} (ha:a=L.length - m) (hm:m≤L.length):∀ r,r < L.length →
  iM (fun j=>iM z 0 (fun j=>bI L (fa (0+m) j)) (fa 0 j)) (0+a) (fun j=>bI L (fa 0 j)) r=bI (L.drop m++L.take m) r:=fun r hr=>by
 by_cases h:r < a
 ·rw [jo (by omega),gD (Nat.zero_le _)]
  refine EX ?_;rw [List.getElem?_append_left (by rw [List.length_drop]; omega),List.getElem?_drop]
  simp [aA]
 ·rw [gD (by omega)]
  refine EX ?_;rw [List.getElem?_append_right (by rw [List.length_drop]; omega),List.length_drop,List.getElem?_take_of_lt (by omega)]
  simp [aA,ha]
theorem U5 {G:Nat→List Value} {L:List Q2} {m a:Nat} {z:Nat→List Value} (hG:∀ r,r < L.length→G r=bI L r) (ha:a=L.length - m) (hm:m≤L.length):∀ r,r < L.length →
  iM (fun j=>iM z 0 (fun j=>G (fa (0+m) j)) (fa 0 j)) (0+a) (fun j=>G (fa 0 j)) r=bI (L.drop m++L.take m) r:=fun r hr=>by
 rw [← Wm (z:=z) ha hm r hr];by_cases h:r < a
 ·rw [jo (show r < 0+a by omega),jo (show r < 0+a by omega),gD (Nat.zero_le _),gD (Nat.zero_le _)]
  have e:fa (0+m) (fa 0 r - 0)=m+r:=by rw [aA,aA]; omega
  rw [e];exact hG _ (by omega)
 ·rw [gD (show 0+a≤r by omega),gD (show 0+a≤r by omega)]
  have e:fa 0 (r - (0+a))=r - a:=by rw [aA]; omega
  rw [e];exact hG _ (by omega)
def XV.p (b:XV):Q4:=(b.1.p,b.2.p)
abbrev LL:=Option (List R3 × Nat)
def aar (l:List R3):Nat→List Value:=fun r=>(l.getD r zI).cells
def LL.val:LL→Value
 | none=>.slice none 0 0
 | some i=>.slice (some ⟨0,0,none⟩) i.1.length i.2
def LL.ah:LL→List ai
 | none=>[]
 | some i=>[.flat false i.1.length 9 (aar i.1)]
def LL.list:LL→List R3
 | none=>[]
 | some i=>i.1
def qs (l:List R3):List Q3:=l.map R3.q
instance (b:Q4):Decidable (okB b):=inferInstanceAs (Decidable (_∧_))
def aem (l:List Q3):Bool:=l.any fun m=>decide (¬ mR m)
theorem p5 {O:List Q2} {q:Nat} {F f:Nat→List Value} {p:PV} {x:Q2} (hq:q=O.length) (hF:∀ r,r < q→F r=bI O r) (hp:p=bP x) (hf:f 0=p.cells):∀ r,r < q+1→iM F q f r=bI (O++[x]) r:=fun r hr=>by
 by_cases h:r < q
 ·rw [jo h,hF r h];exact EX (by rw [List.getElem?_append_left (by omega)])
 ·rw [gD (by omega),show r - q=0 by omega,hf,hp]
  have:r=O.length:=by omega
  subst this;unfold bI di ak;rw [List.getD_eq_getElem?_getD,List.getElem?_map];simp
theorem um {f:Nat→List Value} {p:PV} {x:Q2} (hp:p=bP x) (hf:f 0=p.cells):∀ r,r < 1→f r=bI [x] r:=fun r hr=>by
 have:r=0:=by omega
 subst this;rw [hf,hp]; rfl
theorem My {α β:Type} {l:List α} {f:α→List β} {j:Nat} {e:α} (h:l[j]?=some e):(l.take (j+1)).flatMap f=(l.take j).flatMap f++f e:=by
 rw [List.take_add_one,h];simp
theorem Wn (m:Q3) (e:Q2 × Q2):(nr m e).length≤2:=by
 unfold nr mB gY;rw [List.length_append]
 split <;> split <;> simp
theorem FK (m:Q3):∀ l:List (Q2 × Q2),(l.flatMap (nr m)).length≤2*l.length
 | []=>by simp
 | e::l=>by
  have:=FK m l;have:=Wn m e;rw [List.flatMap_cons,List.length_append,List.length_cons];omega
theorem Wo (m:Q3) (l:List Q2):(dk m l).length≤2*l.length:=by
 rw [N3];have:=FK m (bc l);rw [nM] at this;exact this
open Go
def nV {α:Type} (f:α→Bool) (l:List α) (i:Nat):Prop:=(l.take i).any f=false
theorem EL {α:Type} (f:α→Bool) (l:List α):nV f l 0:=rfl
theorem tU {α:Type} {f:α→Bool} {l:List α} {i:Nat} {x:α} (h:nV f l i) (hx:l[i]?=some x) (hf:f x=false):nV f l (i+1):=by
 unfold nV at *;rw [List.take_add_one,hx,List.any_append,h];simp [hf]
theorem Fg {α:Type} {f:α→Bool} {l:List α} (h:nV f l l.length):l.any f=false:=by
 unfold nV at h;rw [List.take_length] at h;exact h
open Go
theorem TU {p q:Q2}:fR q p=0↔fR p q=0:=by rw [oR,oR]; exact eq_comm
open Go
structure aeK (b:Q4) (l:List Q3):Prop where
 okb:okB b
 aeU:aem l=false
 few:l.length≤60
 eh:bD (HM b l)
 flat:¬ Flat (HM b l)
 ring:Ring (fM (HM b l))
theorem Nj {P:List Q2} (h:Ring P):bD (eV P)∧(eV P).Nodup∧3≤(eV P).length:=⟨FI h.eh,Ff h.nodup,by rw [Bj]; exact h.three⟩
theorem w8 {l:List Q2} (h:l.Nodup) {i j:Nat} (hi:i < l.length) (hj:j < l.length) (e:au l i=au l j):i=j:=by
 have h1:=gO hi;have J:=gO hj;rw [e] at h1;exact (List.getElem?_inj hi h).1 (h1.trans J.symm)
def Qk (L:List Q2) (p:Q2):Prop:=∀ k,k < L.length→0≤ao (au L k) (au L (aZ L.length k)) p
theorem Wp (f:Q3):∀ L:List Q2,L≠[]→∃ v∈L,∀ u∈L,aq f v≤aq f u:=by
 intro L
 induction L with
 | nil=>intro h; exact absurd rfl h
 | cons a L ih =>
  intro _;cases L with
  | nil=>exact ⟨a,List.mem_cons_self ..,fun u hu=>by rw [List.mem_singleton.1 hu]; exact Rat.le_refl⟩
  | cons c L =>
   obtain ⟨v,hv,h⟩:=ih (by simp)
   by_cases hle:aq f a≤aq f v
   ·refine ⟨a,List.mem_cons_self ..,fun u hu=>?_⟩
    rcases List.mem_cons.1 hu with rfl | hu
    ·exact Rat.le_refl
    ·exact Rat.le_trans hle (h u hu)
   ·refine ⟨v,List.mem_cons_of_mem _ hv,fun u hu=>?_⟩
    rcases List.mem_cons.1 hu with rfl | hu
    ·grind
    ·exact h u hu
theorem aen (f:Q3) (u v w p:Q2):ao u v w*(aq f p - aq f v)=ao u v p*(aq f w - aq f v)+ao v w p*(aq f u - aq f v):=by
 simp only [dG,gq]; grind
theorem SS {L:List Q2} {p:Q2} (h:Ring L) (hp:Qk L p):cN L p:=fun f hf=>by
 obtain ⟨v,hv,zR⟩:=Wp f L (fun e=>by have:=h.three; rw [e] at this; exact absurd this (by decide))
 obtain ⟨k,hk,rfl⟩:=qi hv;have hc:=h.sh k hk;have h1:=hp (dB L.length k) (ju hk);rw [Ci hk] at h1;have J:=hp k hk;have e:=aen f (au L (dB L.length k)) (au L k) (au L (aZ L.length k)) p;have h3:=zR _ (eL (cJ hk));have h4:=zR _ (eL (ju hk));have h5:=Rat.mul_nonneg h1 (show 0≤aq f (au L (aZ L.length k)) - aq f (au L k) by grind)
 have h6:=Rat.mul_nonneg J (show 0≤aq f (au L (dB L.length k)) - aq f (au L k) by grind)
 have h7:0≤aq f p - aq f (au L k):=by
  rcases Rat.le_total (a:=0) (b:=aq f p - aq f (au L k)) with h | h
  ·exact h
  ·have h8:=Rat.mul_nonneg (Rat.le_of_lt hc) (show 0≤-(aq f p - aq f (au L k)) by grind)
   have h9:ao (au L (dB L.length k)) (au L k) (au L (aZ L.length k))*(aq f p - aq f (au L k))=0:=by grind
   rcases Rat.mul_eq_zero.1 h9 with h | h <;> grind
 have:=hf _ hv;grind
theorem SU {P:List Q2} (h:Ring P) {u v w:Q2} (h1:(u,v)∈bc P) (J:(v,w)∈bc P):0 < ao u v w:=by
 obtain ⟨i,hi,e1⟩:=BW h1;obtain ⟨j,hj,e2⟩:=BW J;have a1:u=au P i:=congrArg Prod.fst e1;have a2:v=au P (aZ P.length i):=congrArg Prod.snd e1;have b1:v=au P j:=congrArg Prod.fst e2;have b2:w=au P (aZ P.length j):=congrArg Prod.snd e2;have e:=w8 h.nodup (cJ hi) hj (a2.symm.trans b1);subst e;have:=h.sh _ hj;rw [Cj hi] at this;rw [a1,a2,b2]; exact this
theorem U6 {P:List Q2} (h:Ring P):Ring (eV P):=by
 obtain ⟨h1,_,h3⟩:=Nj h;have hm:∀ e,e∈bc (eV P)→e∈bc P:=fun e he=>by
  have:=yB he
  rwa [List.take_append_drop] at this
 exact ⟨h1,h3,fun k hk=>SU h (hm _ (rV hk)) (hm _ (lC hk))⟩
theorem SV {P:List Q2} (h:Ring P) {k:Nat} (hk:k < P.length):0 < ao (au P k) (au P (aZ P.length k)) (au P (aZ P.length (aZ P.length k))):=by
 have:=h.sh _ (cJ hk)
 rwa [Cj hk] at this
theorem SW {P:List Q2} (h:Ring P) {k:Nat} (hk:k < (eV P).length) (h0:0 < k):0 < fR (au (eV P) k) (au (eV P) 0):=by
 obtain ⟨_,hn,h3⟩:=Nj h;obtain ⟨a,A,e,hle⟩:=FJ (l:=P) (fun e=>by have:=h.three; rw [e] at this; exact absurd this (by decide))
 have ea:au (eV P) 0=a:=by rw [e]; rfl
 have h1:=uC.1 (hle _ (uk.1 (eL hk)));rw [← ea] at h1;have J:fR (au (eV P) k) (au (eV P) 0)≠0:=fun e=>by
  have:=w8 hn hk (by omega) (oR.1 e)
  omega
 omega
instance (L:List Q2) (p:Q2):Decidable (Qk L p):=inferInstanceAs (Decidable (∀ k,k < L.length→_))
open Go
theorem N4 {o:Bool} (p:PV):aD (.flat false 1 6 (fun _=>p.cells)) (.aS o 6 [p.cells]) :=
 ⟨(fun h=>by cases h),rfl,Nat.le_refl _,fun r hr=>by
  have:r=0:=by have:r < 1:=hr; omega
  subst this; rfl,fun r hr v hv=>dE (show mH p.cells=true from rfl) v hv⟩
def Rl (m:Q3) (p:Q2):Prop:=mR m∧0≤aq m p
instance (m:Q3) (p:Q2):Decidable (Rl m p):=inferInstanceAs (Decidable (_∧_))
def acM (b:Q4) (l:List Q3) (p:Q2):Prop:=Qj b p∧∀ m∈l,Rl m p
instance (b:Q4) (p:Q2):Decidable (Qj b p):=inferInstanceAs (Decidable (_∧_∧_∧_))
instance (b:Q4) (l:List Q3) (p:Q2):Decidable (acM b l p):=inferInstanceAs (Decidable (_∧_))
theorem aas {k n:Nat} (hk:k < n) (hn:n≤1099511627776):Int.tmod (IntKind.i64.wrap ((k:Int)+2)) (n:Int)=(aZ n (aZ n k):Int):=by
 rw [ax (by omega) (by omega)]
 show Int.tmod ((k+2:Nat):Int) (n:Int)=(((k+1) % n+1) % n:Nat)
 rw [Nat.mod_add_mod]
 rfl
open Go
def aL (L:List PV):List Q2:=L.map PV.p
def il (L:List PV) (k:Nat):PV:=L.getD k (dp,dp)
theorem BX {L:List PV} {k:Nat} (h:k < L.length):L[k]?=some (il L k):=by
 unfold il; rw [List.getD_eq_getElem?_getD,List.getElem?_eq_getElem h]; rfl
theorem m6 {L:List PV} {k:Nat} (h:k < L.length):il L k∈L:=List.mem_of_getElem? (BX h)
theorem oQ {L:List PV} {k:Nat} (h:k < L.length):di L k=(il L k).cells:=by
 unfold di;rw [List.getD_eq_getElem?_getD,BX h]; rfl
theorem kq {L:List PV} {k:Nat} (h:k < L.length):(il L k).p=au (aL L) k:=by
 refine (sf ?_).symm;unfold aL;rw [List.getElem?_map,BX h]; rfl
theorem EY {α β:Type} {f:α→List β} {c:Nat} (h:∀ a,(f a).length≤c):∀ l:List α,(l.flatMap f).length≤c*l.length
 | []=>by simp
 | e::l=>by
  have:=EY h l;have:=h e;rw [List.flatMap_cons,List.length_append,List.length_cons,Nat.mul_add];omega
theorem Wq {l:List Q2} {i:Nat} {a b c:Q2} {z:Int} (ha:a=au l (dB l.length i)) (hb:b=au l i) (hc:c=au l (aZ l.length i)) (hz:z=ba (ao a b c) 0):n3 l i=if z≠0 then [b] else []:=by
 unfold n3;rw [← ha,← hb,← hc,hz];by_cases h:ao a b c=0
 ·rw [if_neg (fun e=>e h),if_neg (fun e=>e (GN h))]
 ·rw [if_pos h,if_pos (fun e=>h (yA.1 e))]
theorem cm (L:List PV):(aL L).length=L.length:=List.length_map ..
theorem iz {L:List PV} {k:Nat} (h:∀ v∈L,v.sz k) (hk:1≤k):∀ v∈aL L,Q2.sz k v:=fun v hv=>by
 obtain ⟨p,hp,rfl⟩:=List.mem_map.1 hv;exact PV.cV (h p hp) hk
theorem XC (L:List Q2) (j:Nat):(((bc L).take j).flatMap nk).length≤L.length:=by
 refine Nat.le_trans (EY (c:=1) (fun e=>by unfold nk; split <;> simp) _) ?_
 rw [List.length_take,nM]; omega
theorem XD (L:List Q2) (j:Nat):((List.range j).flatMap (n3 L)).length≤j:=by
 refine Nat.le_trans (EY (c:=1) (fun e=>by unfold n3; split <;> simp) _) ?_
 rw [List.length_range]; omega
end Go.Ae
