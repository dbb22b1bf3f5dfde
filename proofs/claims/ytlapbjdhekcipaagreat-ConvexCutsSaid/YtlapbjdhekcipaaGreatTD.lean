import Derived.Laws.Strings
import Derived.Test.YtlapbjdhekcipaaGreatTC
set_option linter.unusedVariables false
set_option linter.unusedSimpArgs false
namespace Go.Ae
open Go
theorem VH (x:Int):IntKind.i64.wrap x=if x % 18446744073709551616 ≥ 9223372036854775808 then x % 18446744073709551616 - 18446744073709551616 else x % 18446744073709551616:=by
 have:IntKind.i64.wrap x=if (true && decide (x % (2 ^ 64:Int) ≥ (2 ^ 63:Int)))=true then x % (2 ^ 64:Int) - (2 ^ 64:Int) else x % (2 ^ 64:Int):=rfl
 rw [this];simp
theorem ay {x:Int} (h:-9223372036854775808≤x) (J:x < 9223372036854775808):IntKind.i64.wrap x=x:=by
 rw [VH]
 split <;> omega
theorem BO (x:Int):IntKind.u64.wrap x=x % 18446744073709551616:=by
 unfold IntKind.wrap;simp [IntKind.bits,IntKind.signed]
theorem bR {x:Int} (h:0≤x) (J:x < 18446744073709551616):IntKind.u64.wrap x=x:=by rw [BO]; omega
theorem wC (x:Int):IntKind.u32.wrap x=x % 4294967296:=by
 unfold IntKind.wrap;simp [IntKind.bits,IntKind.signed]
theorem dA {x:Int} (h:0≤x) (J:x < 4294967296):IntKind.u32.wrap x=x:=by rw [wC]; omega
theorem lL (x:Int):IntKind.u8.wrap x=x % 256:=by
 unfold IntKind.wrap;simp [IntKind.bits,IntKind.signed]
theorem dS {x:Int} (h:0≤x) (J:x < 256):IntKind.u8.wrap x=x:=by rw [lL]; omega
abbrev B:Nat:=4294967296
theorem eV (n:Nat):0 < B ^ n:=Nat.pow_pos (by decide)
def al (N i:Nat):Nat:=N / B ^ i % B
theorem cX (N i:Nat):al N i < B:=Nat.mod_lt _ (by decide)
def cS (Y j d:Nat):Nat:=Y % B ^ j+B ^ j*(d+B*(Y / B ^ (j+1)))
theorem Fq (Y j:Nat):Y=Y % B ^ j+B ^ j*(al Y j+B*(Y / B ^ (j+1))):=by
 have h1:=Nat.mod_add_div Y (B ^ j);have J:=Nat.mod_add_div (Y / B ^ j) B;rw [Nat.div_div_eq_div_mul,← Nat.pow_succ] at J;unfold al;rw [J,h1]
theorem pV (Y j d:Nat):cS Y j d+al Y j*B ^ j=Y+d*B ^ j:=by
 have h:=Fq Y j;unfold cS;rw [Nat.mul_add] at h ⊢;have e1:B ^ j*al Y j=al Y j*B ^ j:=Nat.mul_comm _ _;have e2:B ^ j*d=d*B ^ j:=Nat.mul_comm _ _;omega
theorem oP {a k Q:Nat} (h:a < k):(a+k*Q) / k=Q:=by
 have hk:0 < k:=by omega
 rw [Nat.add_mul_div_left _ _ hk,Nat.div_eq_of_lt h,Nat.zero_add]
theorem FR {Y j d:Nat} (hd:d < B) (r:Nat):al (cS Y j d) r=if r=j then d else al Y r:=by
 have ha:Y % B ^ j < B ^ j:=Nat.mod_lt _ (eV j);rcases Nat.lt_trichotomy r j with h | h | h
 ·rw [if_neg (by omega)]
  have key:∀ K,al (Y % B ^ j+B ^ j*K) r=al (Y % B ^ j) r:=by
   intro K;unfold al;have e:B ^ j*K=B ^ r*(B*(B ^ (j - r - 1)*K)):=by
    rw [← Nat.mul_assoc,← Nat.mul_assoc,← Nat.pow_succ,← Nat.pow_add,show r+1+(j - r - 1)=j by omega]
   rw [e,Nat.add_mul_div_left _ _ (eV r),Nat.add_mul_mod_self_left]
  have h1:=key (d+B*(Y / B ^ (j+1)));have J:=key (al Y j+B*(Y / B ^ (j+1)));rw [← Fq Y j] at J;unfold cS;rw [h1,J]
 ·subst h;rw [if_pos rfl];unfold cS al;rw [oP ha,Nat.add_mul_mod_self_left,Nat.mod_eq_of_lt hd]
 ·rw [if_neg (by omega)]
  have key:∀ d',d' < B→al (Y % B ^ j+B ^ j*(d'+B*(Y / B ^ (j+1)))) r=Y / B ^ (j+1) / B ^ (r - j - 1) % B:=by
   intro d' dh;unfold al;have e:B ^ r=B ^ j*(B*B ^ (r - j - 1)):=by
    rw [← Nat.mul_assoc,← Nat.pow_succ,← Nat.pow_add,show j+1+(r - j - 1)=r by omega]
   rw [e,← Nat.div_div_eq_div_mul,oP ha,← Nat.div_div_eq_div_mul,oP dh]
  have h1:=key d hd;have J:=key (al Y j) (cX Y j);rw [← Fq Y j] at J;unfold cS;rw [h1,J]
def bA (N:Nat):Nat→List Value:=fun r=>[.int .u32 (al N r)]
theorem fN {Y j d:Nat} (hd:d < B):(fun r=>if r=j then [Value.int .u32 d] else bA Y r)=bA (cS Y j d):=by
 funext r
 unfold bA;rw [FR hd]
 split <;> rfl
theorem Fs (r:Nat):al 0 r=0:=by simp [al]
theorem tL:(fun _=>[Value.int .u32 0])=bA 0:=by
 funext r
 simp [bA,Fs]
theorem uc {N n:Nat} (h:N < B ^ n) {r:Nat} (hr:n≤r):al N r=0:=by
 unfold al;have:B ^ n≤B ^ r:=Nat.pow_le_pow_right (by decide) hr
 rw [Nat.div_eq_of_lt (by omega)]; rfl
theorem mod_succ (N i:Nat):N % B ^ (i+1)=N % B ^ i+al N i*B ^ i:=by
 unfold al;rw [Nat.pow_succ,Nat.mod_mul];rw [Nat.mul_comm (B ^ i)]
theorem pZ (N i:Nat):N / B ^ i=al N i+B*(N / B ^ (i+1)):=by
 have J:=Nat.mod_add_div (N / B ^ i) B;rw [Nat.div_div_eq_div_mul,← Nat.pow_succ] at J;exact J.symm
def nl (N:Nat):Nat:=if h:N=0 then 0 else nl (N / B)+1
decreasing_by exact Nat.div_lt_self (by omega) (by decide)
theorem r6:nl 0=0:=by rw [nl]; rfl
theorem Gu {N:Nat} (h:N≠0):nl N=nl (N / B)+1:=by rw [nl]; simp [h]
theorem cc (N:Nat):N < B ^ nl N:=by
 induction N using Nat.strongRecOn with
 | _ N ih =>
  by_cases h:N=0
  ·subst h; rw [r6]; decide
  ·have:=ih (N / B) (Nat.div_lt_self (by omega) (by decide))
   rw [Gu h,Nat.pow_succ];exact (Nat.div_lt_iff_lt_mul (by decide)).1 this
theorem jU {N n:Nat} (h:N < B ^ n):nl N≤n:=by
 induction n generalizing N with
 | zero =>
  have:N=0:=by simpa using h
  subst this; rw [r6]; exact Nat.le_refl _
 | succ n ih =>
  by_cases h0:N=0
  ·subst h0; rw [r6]; omega
  ·have:N / B < B ^ n:=(Nat.div_lt_iff_lt_mul (by decide)).2 (by rw [← Nat.pow_succ]; exact h)
   rw [Gu h0];have:=ih this;omega
theorem y7 {N:Nat} (h:N≠0):0 < nl N:=by rw [Gu h]; omega
theorem Lq {N:Nat} (h:nl N=0):N=0:=by
 by_cases h0:N=0
 ·exact h0
 ·have:=y7 h0; omega
theorem R7 {N:Nat} (h:N≠0):B ^ (nl N - 1)≤N:=by
 rcases Nat.lt_or_ge N (B ^ (nl N - 1)) with h1 | h1
 ·have:=jU h1;have:=y7 h;omega
 ·exact h1
theorem Pa {N n:Nat} (h:N < B ^ n) (J:n=0∨al N (n - 1)≠0):nl N=n:=by
 rcases J with rfl | J
 ·have:=jU h; omega
 ·have h3:=jU h;rcases Nat.lt_or_ge (nl N) n with h4 | h4
  ·exact absurd (uc (cc N) (show nl N≤n - 1 by omega)) J
  ·omega
theorem lM {M N:Nat} (h:M≤N):nl M≤nl N:=jU (Nat.lt_of_le_of_lt h (cc N))
theorem KU {M N:Nat} (h:nl M < nl N):M < N:=by
 rcases Nat.lt_or_ge M N with h1 | h1
 ·exact h1
 ·have:=lM h1; omega
theorem VI {N:Nat} (h:N≠0):al N (nl N - 1)≠0:=by
 intro h0;have h1:=cc N;have J:=y7 h;have e:nl N=nl N - 1+1:=by omega
 have h3:=mod_succ N (nl N - 1);rw [← e,h0,Nat.mod_eq_of_lt h1] at h3;have h4:=Nat.mod_lt N (eV (nl N - 1));have:=jU (show N < B ^ (nl N - 1) by omega)
 omega
open Go
abbrev C:Nat:=256
theorem ie (n:Nat):0 < C ^ n:=Nat.pow_pos (by decide)
def dE (l:List UInt8):Nat:=l.foldl (fun a b=>a*C+b.toNat) 0
theorem Ml (l:List UInt8):∀ a,l.foldl (fun a b=>a*C+b.toNat) a=a*C ^ l.length+dE l:=by
 induction l with
 | nil=>intro a; simp [dE]
 | cons b l ih =>
  intro a;simp only [List.foldl_cons,dE];rw [ih,ih (0*C+b.toNat)];rw [List.length_cons,Nat.pow_succ,Nat.add_mul,Nat.zero_mul,Nat.zero_add,Nat.mul_assoc,Nat.mul_comm C,Nat.add_assoc]
theorem rQ (b:UInt8) (l:List UInt8):dE (b::l)=b.toNat*C ^ l.length+dE l:=by
 have:=Ml l (0*C+b.toNat);rw [Nat.zero_mul,Nat.zero_add] at this
 simpa [dE] using this
theorem Be (l m:List UInt8):dE (l++m)=dE l*C ^ m.length+dE m:=by
 unfold dE;rw [List.foldl_append,Ml]
 rfl
theorem HL (b:UInt8):b.toNat < C:=b.toNat_lt
theorem r8 (l:List UInt8):dE l < C ^ l.length:=by
 induction l with
 | nil=>decide
 | cons b l ih =>
  rw [rQ,List.length_cons,Nat.pow_succ];have:=HL b;have J:(b.toNat+1)*C ^ l.length≤C*C ^ l.length:=Nat.mul_le_mul_right _ this;rw [Nat.add_mul] at J;rw [Nat.mul_comm (C ^ l.length)];omega
theorem VJ {l:List UInt8} {i:Nat} (h:i < l.length):l[i].toNat=dE l / C ^ (l.length - 1 - i) % C:=by
 induction l generalizing i with
 | nil=>simp at h
 | cons b l ih =>
  cases i with
  | zero =>
   simp only [List.getElem_cons_zero,List.length_cons,Nat.add_sub_cancel,Nat.sub_zero];rw [rQ,Nat.mul_comm,Nat.mul_add_div (ie _),Nat.div_eq_of_lt (r8 l),Nat.add_zero,Nat.mod_eq_of_lt (HL b)]
  | succ i =>
   have hi:i < l.length:=by simpa using h
   simp only [List.getElem_cons_succ,List.length_cons,Nat.add_sub_cancel];rw [ih hi,rQ];have e:C ^ l.length=C ^ (l.length - (i+1))*(C*C ^ i):=by
    rw [← Nat.mul_assoc,← Nat.pow_succ,← Nat.pow_add,show l.length - (i+1)+1+i=l.length by omega]
   rw [show l.length - 1 - i=l.length - (i+1) by omega,e]
   rw [show b.toNat*(C ^ (l.length - (i+1))*(C*C ^ i))=C ^ (l.length - (i+1))*(C*(C ^ i*b.toNat)) by
    rw [Nat.mul_comm,Nat.mul_assoc,Nat.mul_assoc]]
   rw [Nat.mul_add_div (ie _),Nat.mul_add_mod]
def ab (s:ByteArray):Nat:=dE s.data.toList
theorem size_eq (s:ByteArray):s.data.toList.length=s.size:=rfl
theorem gD (s:ByteArray):ab s < C ^ s.size:=r8 _
theorem tW {s:ByteArray} {i:Nat} (h:i < s.size):cg s i=ab s / C ^ (s.size - 1 - i) % C:=by
 have h':i < s.data.toList.length:=h;have:=VJ h';unfold cg ab;rw [List.getD_eq_getElem?_getD,List.getElem?_eq_getElem h',Option.getD_some,this]
 rfl
theorem wm (s:ByteArray) (i:Nat):cg s i < C:=HL _
theorem G6 {s t:ByteArray} (h:s.data.toList=t.data.toList):s=t:=by
 cases s; cases t; congr; exact Array.ext' h
theorem VK {l m:List UInt8} (h:l.length=m.length) (J:dE l=dE m):l=m:=by
 induction l generalizing m with
 | nil=>cases m with
  | nil=>rfl
  | cons=>simp at h
 | cons a l ih=>cases m with
  | nil=>simp at h
  | cons b m =>
   simp only [List.length_cons,Nat.add_right_cancel_iff] at h;rw [rQ,rQ,h] at J;have h3:=r8 l;have h4:=r8 m;rw [h] at h3;have ha:a.toNat=b.toNat:=by
    have e1:(a.toNat*C ^ m.length+dE l) / C ^ m.length=a.toNat:=by
     rw [Nat.mul_comm,Nat.mul_add_div (ie _),Nat.div_eq_of_lt h3,Nat.add_zero]
    have e2:(b.toNat*C ^ m.length+dE m) / C ^ m.length=b.toNat:=by
     rw [Nat.mul_comm,Nat.mul_add_div (ie _),Nat.div_eq_of_lt h4,Nat.add_zero]
    rw [← e1,← e2,J]
   rw [ha] at J;rw [UInt8.toNat_inj.1 ha,ih h (by omega)]
theorem VL {s t:ByteArray} (h:s.size=t.size) (J:ab s=ab t):s=t:=G6 (VK h J)
def pN:Nat→Nat→List UInt8
 | 0,_=>[]
 | n+1,Y=>pN n (Y / C)++[UInt8.ofNat (Y % C)]
theorem v9:∀ (n Y:Nat),(pN n Y).length=n
 | 0,_=>rfl
 | n+1,Y=>by simp [pN,v9 n]
theorem ofNat_mod (x:Nat):(UInt8.ofNat (x % C)).toNat=x % C:=by
 have:x % C < 256:=Nat.mod_lt _ (by decide)
 simp [UInt8.toNat_ofNat,Nat.mod_eq_of_lt this]
theorem MW:∀ (n Y:Nat),dE (pN n Y)=Y % C ^ n
 | 0,Y=>by simp [pN,dE,Nat.mod_one]
 | n+1,Y=>by
  rw [pN,Be,MW n,rQ];simp only [List.length_cons,List.length_nil,Nat.zero_add,Nat.pow_zero,Nat.mul_one,Nat.pow_one];rw [ofNat_mod,Nat.pow_succ,Nat.mul_comm (C ^ n),Nat.mod_mul];simp only [dE,List.foldl_nil,Nat.add_zero];rw [Nat.mul_comm]; omega
def be (n Y:Nat):ByteArray:=⟨⟨pN n Y⟩⟩
theorem wN (n Y:Nat):(be n Y).size=n:=v9 n Y
theorem Gv (n Y:Nat):ab (be n Y)=Y % C ^ n:=MW n Y
def aU (N:Nat):Nat:=if h:N=0 then 0 else aU (N / C)+1
decreasing_by exact Nat.div_lt_self (by omega) (by decide)
theorem wD:aU 0=0:=by rw [aU]; rfl
theorem FU {N:Nat} (h:N≠0):aU N=aU (N / C)+1:=by rw [aU]; simp [h]
theorem lP (N:Nat):N < C ^ aU N:=by
 induction N using Nat.strongRecOn with
 | _ N ih =>
  by_cases h:N=0
  ·subst h; rw [wD]; decide
  ·have:=ih (N / C) (Nat.div_lt_self (by omega) (by decide))
   rw [FU h,Nat.pow_succ];exact (Nat.div_lt_iff_lt_mul (by decide)).1 this
theorem gR {N n:Nat} (h:N < C ^ n):aU N≤n:=by
 induction n generalizing N with
 | zero =>
  have:N=0:=by simpa using h
  subst this; rw [wD]; exact Nat.le_refl _
 | succ n ih =>
  by_cases h0:N=0
  ·subst h0; rw [wD]; omega
  ·have:N / C < C ^ n:=(Nat.div_lt_iff_lt_mul (by decide)).2 (by rw [← Nat.pow_succ]; exact h)
   rw [FU h0];have:=ih this;omega
theorem Gw {N:Nat} (h:N≠0):0 < aU N:=by rw [FU h]; omega
theorem Sx {N:Nat} (h:aU N=0):N=0:=by
 by_cases h0:N=0
 ·exact h0
 ·have:=Gw h0; omega
theorem ja {M N:Nat} (h:M≤N):aU M≤aU N:=gR (Nat.lt_of_le_of_lt h (lP N))
theorem R8 {M N:Nat} (h:aU M < aU N):M < N:=by
 rcases Nat.lt_or_ge M N with h1 | h1
 ·exact h1
 ·have:=ja h1; omega
theorem Oz {N n:Nat} (h:N < C ^ n) (J:n=0∨C ^ (n - 1)≤N):aU N=n:=by
 rcases J with rfl | J
 ·have:=gR h; omega
 ·have h3:=gR h;rcases Nat.lt_or_ge (aU N) n with h4 | h4
  ·have h5:C ^ aU N≤C ^ (n - 1):=Nat.pow_le_pow_right (by decide) (by omega)
   have:=lP N;omega
  ·omega
theorem RT {N:Nat} (h:N≠0):C ^ (aU N - 1)≤N:=by
 rcases Nat.lt_or_ge N (C ^ (aU N - 1)) with h1 | h1
 ·have:=gR h1;have:=Gw h;omega
 ·exact h1
def nb (N:Nat):ByteArray:=be (aU N) N
theorem gx (N:Nat):(nb N).size=aU N:=wN _ _
theorem gO (N:Nat):ab (nb N)=N:=by unfold nb; rw [Gv,Nat.mod_eq_of_lt (lP N)]
theorem OA {M N:Nat} (h:nb M=nb N):M=N:=by rw [← gO M,h,gO]
theorem oX:nb 0=⟨#[]⟩:=by unfold nb; rw [wD]; rfl
theorem iN (s:ByteArray):aU (ab s)≤s.size:=gR (gD s)
theorem acz {s:ByteArray} (h:s.size=0∨C ^ (s.size - 1)≤ab s):s=nb (ab s):=by
 refine VL ?_ (gO _).symm;rw [gx,Oz (gD s) h]
theorem y8 {s:ByteArray} (h:s.size=0∨cg s 0≠0):s=nb (ab s):=by
 refine acz (h.imp_right fun h=>?_)
 by_cases h0:s.size=0
 ·exfalso;apply h;unfold cg;have:s.data.toList=[]:=List.eq_nil_of_length_eq_zero h0;rw [this]; rfl
 ·rw [tW (by omega)] at h
  rcases Nat.lt_or_ge (ab s) (C ^ (s.size - 1)) with h1 | h1
  ·rw [Nat.sub_zero,Nat.div_eq_of_lt h1] at h;exact absurd rfl h
  ·exact h1
theorem Sy (s t:ByteArray):ab (s++t)=ab s*C ^ t.size+ab t:=by
 unfold ab;have:(s++t).data.toList=s.data.toList++t.data.toList:=by simp
 rw [this,Be]; rfl
theorem KB (s:ByteArray) (l h:Nat):(s.extract l h).data.toList=(s.data.toList.take h).drop l:=by
 simp [ByteArray.data_extract,List.extract,List.drop_take]
theorem Ev {s:ByteArray} {l h:Nat} (h1:l≤h) (J:h≤s.size):(s.extract l h).size=h - l:=by
 rw [← size_eq,KB];have:h≤s.data.toList.length:=J;simp; omega
theorem Uv (l:List UInt8) (n:Nat) (h:n≤l.length):dE (l.drop n)=dE l % C ^ (l.length - n):=by
 have e:dE l=dE (l.take n)*C ^ (l.drop n).length+dE (l.drop n):=by rw [← Be,List.take_append_drop]
 have J:=r8 (l.drop n);rw [List.length_drop] at e J;rw [e,Nat.mul_comm,Nat.mul_add_mod,Nat.mod_eq_of_lt J]
theorem Uw (l:List UInt8) (n:Nat) (h:n≤l.length):dE (l.take n)=dE l / C ^ (l.length - n):=by
 have e:dE l=dE (l.take n)*C ^ (l.drop n).length+dE (l.drop n):=by rw [← Be,List.take_append_drop]
 have J:=r8 (l.drop n);rw [List.length_drop] at e J;rw [e,Nat.mul_comm,Nat.mul_add_div (ie _),Nat.div_eq_of_lt J,Nat.add_zero]
theorem Ez {s:ByteArray} {l h:Nat} (h1:l≤h) (J:h≤s.size):ab (s.extract l h)=ab s / C ^ (s.size - h) % C ^ (h - l):=by
 unfold ab;have j9:h≤s.data.toList.length:=J;have e:(s.data.toList.take h).length=h:=by rw [List.length_take]; omega
 rw [KB,Uv _ _ (by rw [e]; exact h1),Uw _ _ j9,e]
 rfl
theorem qi (s t:ByteArray):(s.toList == t.toList)=decide (s=t):=by
 rw [ByteArray.toList_eq,ByteArray.toList_eq];by_cases h:s=t
 ·subst h; simp
 ·simp [h];intro J;exact h (G6 (by rw [J]))
theorem Ft {s:ByteArray}:s=⟨#[]⟩↔s.size=0:=by
 constructor
 ·intro h; subst h; rfl
 ·intro h;refine G6 ?_;exact List.eq_nil_of_length_eq_zero h
theorem KC {N:Nat}:nb N=⟨#[]⟩↔N=0:=by
 rw [Ft,gx];exact ⟨Sx,fun h=>by rw [h,wD]⟩
theorem KD:∀ {l m:List UInt8},l.length=m.length→Op.bytesLess l m=decide (dE l < dE m)
 | [],[],_=>by simp [Op.bytesLess,dE]
 | [],_::_,h=>by simp at h
 | _::_,[],h=>by simp at h
 | a::l,b::m,h=>by
  have h:l.length=m.length:=by simpa using h
  have ih:=KD h;unfold Op.bytesLess;rw [ih,rQ,rQ,h];have h3:=r8 l;have h4:=r8 m;rw [h] at h3;rcases Nat.lt_trichotomy a.toNat b.toNat with eZ | eZ | eZ
  ·have:a < b:=UInt8.lt_iff_toNat_lt.2 eZ;have h5:(a.toNat+1)*C ^ m.length≤b.toNat*C ^ m.length:=Nat.mul_le_mul_right _ eZ;rw [Nat.add_mul] at h5;have h6:a.toNat*C ^ m.length+dE l < b.toNat*C ^ m.length+dE m:=by omega
   simp [this,h6]
  ·have e:a=b:=UInt8.toNat_inj.1 eZ;subst e;simp
  ·have:¬ a < b:=fun h=>by have:=UInt8.lt_iff_toNat_lt.1 h; omega
   have h5:(b.toNat+1)*C ^ m.length≤a.toNat*C ^ m.length:=Nat.mul_le_mul_right _ eZ;rw [Nat.add_mul] at h5;have h6:¬ (a.toNat*C ^ m.length+dE l < b.toNat*C ^ m.length+dE m):=by omega
   have h7:¬ a=b:=fun e=>by subst e; omega
   simp [this,h6,h7]
theorem VM {s t:ByteArray} (h:s.size=t.size):Op.bytesLess s.toList t.toList=decide (ab s < ab t):=by
 rw [ByteArray.toList_eq,ByteArray.toList_eq];exact KD h
open Go
theorem sK (a:Int) (k:Nat):a.fdiv (2 ^ k)=a / 2 ^ k:=Int.fdiv_eq_ediv_of_nonneg _ (Int.le_of_lt (Int.pow_pos (by decide)))
theorem Fu (b:BitVec 32):IntKind.u32.wrap (b.toNat:Int)=b.toNat:=dA (by omega) (by have:=b.isLt; omega)
theorem VN {w:Nat} (b:BitVec w):BitVec.ofInt w (b.toNat:Int)=b:=by
 rw [BitVec.ofInt_natCast,BitVec.ofNat_toNat]; simp
theorem Xc (b:BitVec 32):(b.toNat:Int) / 2147483648=if b.msb then 1 else 0:=by
 have h:=b.isLt;rw [BitVec.msb_eq_decide];by_cases h1:2 ^ (32 - 1)≤b.toNat
 ·simp [h1]; omega
 ·simp [h1]; omega
theorem toNat_ofInt32 (x:Nat) (h:x < 4294967296):(BitVec.ofInt 32 (x:Int)).toNat=x:=by
 rw [BitVec.ofInt_natCast,BitVec.toNat_ofNat]; exact Nat.mod_eq_of_lt h
theorem EK (x:Nat) (h:x < 4294967296):(BitVec.ofInt 32 (x:Int)).msb=decide (2147483648≤x):=by
 rw [BitVec.msb_eq_decide,toNat_ofInt32 x h]
theorem Tg (x y c:Nat) (hx:x < 4294967296) (hy:y < 4294967296) (hc:c≤1) (d:Nat) (hd:d=(x+2*4294967296 - y - c) % 4294967296) :
  (((BitVec.ofInt 32 (4294967295:Int) ^^^ BitVec.ofInt 32 (x:Int)) &&& BitVec.ofInt 32 (y:Int)) ||| ((BitVec.ofInt 32 (4294967295:Int) ^^^ (BitVec.ofInt 32 (x:Int) ^^^ BitVec.ofInt 32 (y:Int))) &&& BitVec.ofInt 32 (d:Int))).msb=decide (x < y+c):=by
 have dh:d < 4294967296:=by omega
 have ho:(BitVec.ofInt 32 (4294967295:Int)).msb=true:=by decide
 rw [BitVec.msb_or,BitVec.msb_and,BitVec.msb_and,BitVec.msb_xor,BitVec.msb_xor,BitVec.msb_xor,ho,EK x hx,EK y hy,EK d dh];by_cases h1:2147483648≤x <;> by_cases J:2147483648≤y <;> by_cases h3:2147483648≤d <;> simp [h1,J,h3] <;> omega
theorem Xd (x y:Nat) (hx:x < 4294967296) (hy:y < 4294967296):((BitVec.ofInt 64 ((x:Int)*4294967296) ||| BitVec.ofInt 64 (y:Int)).toNat:Int)=(x*4294967296+y:Nat):=by
 have e1:BitVec.ofInt 64 ((x:Int)*4294967296)=BitVec.ofNat 64 (x*4294967296):=by
  rw [← BitVec.ofInt_natCast]; congr 1
 rw [e1,BitVec.ofInt_natCast,BitVec.toNat_or,BitVec.toNat_ofNat,BitVec.toNat_ofNat,Nat.mod_eq_of_lt (by omega),Nat.mod_eq_of_lt (by omega)]
 have:=Nat.shiftLeft_add_eq_or_of_lt (i:=32) (b:=y) (by simpa using hy) x
 rw [Nat.shiftLeft_eq] at this;have J:(2:Nat) ^ 32=4294967296:=by decide
 rw [J] at this;rw [← this]
theorem eJ (a:Int):a.fdiv (2 ^ min (Int.toNat 31) IntKind.u64.bits)=a / 2147483648:=by rw [sK]; rfl
theorem cG (a:Int):a.fdiv (2 ^ min (Int.toNat 32) IntKind.u64.bits)=a / 4294967296:=by rw [sK]; rfl
theorem dB (a:Int):a.fdiv (2 ^ min (Int.toNat 8) IntKind.u32.bits)=a / 256:=by rw [sK]; rfl
theorem dI (a:Int):a.fdiv (2 ^ min (Int.toNat 16) IntKind.u32.bits)=a / 65536:=by rw [sK]; rfl
theorem dP (a:Int):a.fdiv (2 ^ min (Int.toNat 24) IntKind.u32.bits)=a / 16777216:=by rw [sK]; rfl
theorem dt (a:Int):a.fdiv (2 ^ min (Int.toNat 8) IntKind.i64.bits)=a / 256:=by rw [sK]; rfl
def CA (x y c:Int):Int:=IntKind.u32.wrap (IntKind.u32.wrap (x - y) - c)
def G7 (x y c:Int):Int:=(IntKind.u32.wrap ((BitVec.ofInt 32 (IntKind.u32.wrap ((BitVec.ofInt 32 (IntKind.u32.wrap ((BitVec.ofInt 32 (4294967295:Int) ^^^ BitVec.ofInt 32 x).toNat:Int)) &&& BitVec.ofInt 32 y).toNat:Int)) |||
 BitVec.ofInt 32 (IntKind.u32.wrap ((BitVec.ofInt 32 (IntKind.u32.wrap ((BitVec.ofInt 32 (4294967295:Int) ^^^ BitVec.ofInt 32 (IntKind.u32.wrap ((BitVec.ofInt 32 x ^^^ BitVec.ofInt 32 y).toNat:Int))).toNat:Int)) &&&
  BitVec.ofInt 32 (CA x y c)).toNat:Int))).toNat:Int)).fdiv (2 ^ 31)
theorem Mm {x y c:Nat} (hx:x < 4294967296) (hy:y < 4294967296) (hc:c≤1):CA x y c=((x+2*4294967296 - y - c) % 4294967296:Nat):=by
 unfold CA;rw [wC,wC]; omega
theorem Ux {x y c:Nat} (hx:x < 4294967296) (hy:y < 4294967296) (hc:c≤1):G7 x y c=if x < y+c then 1 else 0:=by
 unfold G7;rw [Mm hx hy hc];simp only [Fu,VN,sK];rw [show (2:Int) ^ 31=2147483648 by decide,Xc,Tg x y c hx hy hc _ rfl]
 simp
theorem Xe {x k:Nat} (h1:2 ^ k≤x) (J:x < 2 ^ (k+1)):x.log2=k:=by
 have hx:x≠0:=by have:=Nat.pow_pos (n:=k) (show 0 < 2 by decide); omega
 have a1:=(Nat.log2_lt hx).2 J;have a2:=(Nat.le_log2 hx).2 h1;omega
def fu (x:Nat):Nat:=if x=0 then 0 else x.log2+1
theorem Gx (x:Nat):x < 2 ^ fu x:=by
 unfold fu
 split
 ·omega
 ·rename_i h; exact (Nat.log2_lt h).1 (Nat.lt_succ_self _)
theorem Kk {x:Nat} (h:x≠0):2 ^ (fu x - 1)≤x:=by
 unfold fu;rw [if_neg h];exact (Nat.le_log2 h).1 (Nat.le_refl _)
theorem Xf {x k:Nat} (h1:x < 2 ^ k) (J:k=0∨2 ^ (k - 1)≤x):fu x=k:=by
 rcases J with rfl | J
 ·have:x=0:=by simpa using h1
  subst this; rfl
 ·by_cases h0:k=0
  ·subst h0;have:x=0:=by simpa using h1
   subst this; rfl
  ·have hx:x≠0:=by have:=Nat.pow_pos (n:=k - 1) (show 0 < 2 by decide); omega
   unfold fu;rw [if_neg hx,Xe J (by rw [show k - 1+1=k by omega]; exact h1)]
   omega
theorem Bp {x k:Nat} (h:2 ^ k≤x):fu x=k+fu (x / 2 ^ k):=by
 have hp:=Nat.pow_pos (n:=k) (show 0 < 2 by decide)
 have hq:x / 2 ^ k≠0:=by have:=Nat.div_pos h hp; omega
 have hb:0 < fu (x / 2 ^ k):=by unfold fu; rw [if_neg hq]; omega
 refine Xf ?_ (.inr ?_)
 ·have:=Gx (x / 2 ^ k);rw [Nat.pow_add,Nat.mul_comm];exact (Nat.div_lt_iff_lt_mul hp).1 this
 ·have:=Kk hq;rw [show k+fu (x / 2 ^ k) - 1=k+(fu (x / 2 ^ k) - 1) by omega,Nat.pow_add,Nat.mul_comm]
  exact (Nat.le_div_iff_mul_le hp).1 this
theorem dK (x y:Nat) (hx:x < 4294967296) (hy:y < 4294967296):IntKind.u64.wrap ((BitVec.ofInt IntKind.u64.bits ((x:Int)*4294967296) ||| BitVec.ofInt IntKind.u64.bits (y:Int)).toNat:Int)=(x:Int)*4294967296+y:=by
 have h:=Xd x y hx hy;have:IntKind.u64.wrap ((BitVec.ofInt 64 ((x:Int)*4294967296) ||| BitVec.ofInt 64 (y:Int)).toNat:Int)=(x:Int)*4294967296+y:=by
  rw [h,bR (by omega) (by omega)]; omega
 exact this
theorem Xg (x y:Nat) (hx:x < 36028797018963968) (hy:y < 256):((BitVec.ofInt 64 ((x:Int)*256) ||| BitVec.ofInt 64 (y:Int)).toNat:Int)=(x*256+y:Nat):=by
 have e1:BitVec.ofInt 64 ((x:Int)*256)=BitVec.ofNat 64 (x*256):=by
  rw [← BitVec.ofInt_natCast]; congr 1
 rw [e1,BitVec.ofInt_natCast,BitVec.toNat_or,BitVec.toNat_ofNat,BitVec.toNat_ofNat,Nat.mod_eq_of_lt (by omega),Nat.mod_eq_of_lt (by omega)]
 have:=Nat.shiftLeft_add_eq_or_of_lt (i:=8) (b:=y) (by simpa using hy) x
 rw [Nat.shiftLeft_eq] at this;have J:(2:Nat) ^ 8=256:=by decide
 rw [J] at this;rw [← this]
theorem ef (x y:Nat) (hx:x < 36028797018963968) (hy:y < 256):IntKind.i64.wrap ((BitVec.ofInt IntKind.i64.bits ((x:Int)*256) ||| BitVec.ofInt IntKind.i64.bits (y:Int)).toNat:Int)=(x:Int)*256+y:=by
 have h:=Xg x y hx hy;have:IntKind.i64.wrap ((BitVec.ofInt 64 ((x:Int)*256) ||| BitVec.ofInt 64 (y:Int)).toNat:Int)=(x:Int)*256+y:=by
  rw [h,ay (by omega) (by omega)]; omega
 exact this
theorem toNat_cast (n:Nat):((n:Int)).toNat=n:=Int.toNat_natCast n
theorem Xh {x:Nat} (h:x < 256):fu x≤8:=by
 unfold fu
 split
 ·omega
 ·rename_i h0; have:=(Nat.log2_lt h0).2 (show x < 2 ^ 8 from h); omega
theorem MX {x:Nat} (h:x < 4294967296):fu x≤32:=by
 unfold fu
 split
 ·omega
 ·rename_i h0; have:=(Nat.log2_lt h0).2 (show x < 2 ^ 32 from h); omega
theorem eI (c:Nat):uA c 0=c:=by
 unfold uA;cases h:decide (c=ao) with
 | true=>exact (of_decide_eq_true h).symm
 | false=>rfl
theorem toNat_0:Int.toNat 0=0:=rfl
theorem toNat_1:Int.toNat 1=1:=rfl
theorem G8 (x y k:Nat) (hx:x < 2 ^ k):x ||| (y*2 ^ k)=x+y*2 ^ k:=by
 have:=Nat.shiftLeft_add_eq_or_of_lt hx y;rw [Nat.shiftLeft_eq] at this;rw [Nat.or_comm,← this,Nat.add_comm]
theorem Th (x y e:Nat) (hx:x < 256 ^ e) (hy:y < 256) (he:e < 4):IntKind.u32.wrap ((BitVec.ofInt IntKind.u32.bits (x:Int) ||| BitVec.ofInt IntKind.u32.bits (IntKind.u32.wrap ((y:Int)*2 ^ (min (8*e) IntKind.u32.bits)))).toNat:Int)=((x+y*256 ^ e:Nat):Int):=by
 have hp:(256:Nat) ^ e=2 ^ (8*e):=by rw [show (256:Nat)=2 ^ 8 from rfl,← Nat.pow_mul]
 have ak:x+y*2 ^ (8*e) < 4294967296:=by
  have h1:(y+1)*2 ^ (8*e)≤256*2 ^ (8*e):=Nat.mul_le_mul_right _ hy;have J:256*2 ^ (8*e)≤4294967296:=by
   have:2 ^ (8*e)≤2 ^ 24:=Nat.pow_le_pow_right (by decide) (by omega)
   omega
  rw [Nat.add_mul] at h1;rw [hp] at hx;omega
 have q9:x < 2 ^ (8*e):=by rw [← hp]; exact hx
 have e1:IntKind.u32.wrap ((y:Int)*2 ^ (min (8*e) 32))=((y*2 ^ (8*e):Nat):Int):=by
  rw [show min (8*e) 32=8*e by omega]
  have:((y*2 ^ (8*e):Nat):Int)=(y:Int)*2 ^ (8*e):=by simp
  rw [← this,dA (by omega) (by omega)]
 have key:IntKind.u32.wrap ((BitVec.ofInt 32 (x:Int) ||| BitVec.ofInt 32 (IntKind.u32.wrap ((y:Int)*2 ^ (min (8*e) 32)))).toNat:Int)=((x+y*256 ^ e:Nat):Int):=by
  rw [e1,Fu,BitVec.toNat_or,toNat_ofInt32 _ (by omega),toNat_ofInt32 _ (by omega),G8 _ _ _ q9,hp]
 exact key
theorem OB {N n:Nat} (h:N < B ^ n) (J:n=0∨B ^ (n - 1)≤N):nl N=n:=by
 rcases J with rfl | J
 ·have:=jU h; omega
 ·have h3:=jU h;rcases Nat.lt_or_ge (nl N) n with h4 | h4
  ·have h5:B ^ nl N≤B ^ (n - 1):=Nat.pow_le_pow_right (by decide) (by omega)
   have:=cc N;omega
  ·omega
theorem Dp (n:Nat):B ^ n=C ^ (4*n):=by rw [Nat.pow_mul]; rfl
theorem OC (N:Nat):nl N=(aU N+3) / 4:=by
 refine OB ?_ ?_
 ·rw [Dp];exact Nat.lt_of_lt_of_le (lP N) (Nat.pow_le_pow_right (by decide) (by omega))
 ·by_cases h:N=0
  ·left; subst h; rw [wD]
  ·right
   have:=Gw h;rw [Dp];exact Nat.le_trans (Nat.pow_le_pow_right (by decide) (by omega)) (RT h)
theorem Uy (N i:Nat):cS (N % C ^ i) (i / 4) (al (N % C ^ i) (i / 4)+N / C ^ i % C*256 ^ (i % 4))=N % C ^ (i+1)∧al (N % C ^ i) (i / 4) < 256 ^ (i % 4):=by
 have hB:B ^ (i / 4)*256 ^ (i % 4)=C ^ i:=by
  rw [Dp,← Nat.pow_add]; congr 1; omega
 have ak:N % C ^ i < C ^ i:=Nat.mod_lt _ (ie i);have hl:al (N % C ^ i) (i / 4) < 256 ^ (i % 4):=by
  have h1:N % C ^ i / B ^ (i / 4) < 256 ^ (i % 4):=(Nat.div_lt_iff_lt_mul (eV _)).2 (by rw [Nat.mul_comm,hB]; exact ak)
  unfold al;exact Nat.lt_of_le_of_lt (Nat.mod_le _ _) h1
 refine ⟨?_,hl⟩;have h:=pV (N % C ^ i) (i / 4) (al (N % C ^ i) (i / 4)+N / C ^ i % C*256 ^ (i % 4));have e:N % C ^ (i+1)=N % C ^ i+C ^ i*(N / C ^ i % C):=by rw [Nat.pow_succ,Nat.mod_mul]
 have e2:N / C ^ i % C*256 ^ (i % 4)*B ^ (i / 4)=C ^ i*(N / C ^ i % C):=by
  rw [Nat.mul_assoc,Nat.mul_comm (256 ^ (i % 4)),hB,Nat.mul_comm]
 rw [Nat.add_mul,e2] at h;omega
theorem eg (a:Nat):((a:Int)).tdiv 4=((a / 4:Nat):Int):=rfl
theorem eM (a:Nat):((a:Int)).tmod 4=((a % 4:Nat):Int):=rfl
theorem eK (a:Nat):(8:Int)*(a:Int)=((8*a:Nat):Int):=by omega
theorem eO {m:Nat} (h:0 < m):(m:Int) - 1=((m - 1:Nat):Int):=by omega
theorem eP (m:Nat):(m:Int)+1=((m+1:Nat):Int):=by omega
theorem eW {a b:Nat} (h:b≤a):(a:Int) - (b:Int)=((a - b:Nat):Int):=by omega
theorem eX (a b:Nat):(a:Int)+(b:Int)=((a+b:Nat):Int):=by omega
theorem eT (a:Nat):(8:Int)*(a:Int)=((8*a:Nat):Int):=by omega
theorem VO {Q L m r:Nat} (hL:L < B) (hr:r < m):(Q*B+L) / C ^ (m+4 - 1 - r) % C=Q / C ^ (m - 1 - r) % C:=by
 have e:C ^ (m+4 - 1 - r)=B*C ^ (m - 1 - r):=by
  rw [show m+4 - 1 - r=4+(m - 1 - r) by omega,Nat.pow_add]; rfl
 rw [e,← Nat.div_div_eq_div_mul];have:(Q*B+L) / B=Q:=by rw [Nat.mul_comm,Nat.mul_add_div (by decide),Nat.div_eq_of_lt hL,Nat.add_zero]
 rw [this]
theorem VP {Q L e:Nat} (he:e≤3):(Q*B+L) / C ^ e % C=L / C ^ e % C:=by
 have h:B=C ^ e*(C ^ (3 - e)*C):=by
  rw [← Nat.mul_assoc,← Nat.pow_add,← Nat.pow_succ,show (e+(3 - e)).succ=4 by omega]; rfl
 rw [show Q*B=C ^ e*(Q*C ^ (3 - e)*C) by rw [h,Nat.mul_comm Q,Nat.mul_assoc,Nat.mul_comm (C ^ (3 - e)*C) Q,Nat.mul_assoc Q]]
 rw [Nat.mul_add_div (ie _),Nat.mul_add_mod_self_right]
theorem NN:∀ {n Y r:Nat} (h:r < n),(pN n Y)[r]?=some (UInt8.ofNat (Y / C ^ (n - 1 - r) % C))
 | n+1,Y,r,h=>by
  unfold pN;by_cases hr:r < n
  ·rw [List.getElem?_append_left (by rw [v9]; exact hr),NN hr,Nat.div_div_eq_div_mul,← Nat.pow_succ']
   congr 5; omega
  ·have:r=n:=by omega
   subst this;rw [List.getElem?_append_right (by rw [v9]; exact Nat.le_refl _),v9]
   simp
theorem wa {g:Nat→List Value} {m X:Nat} (h:∀ r,r < m→g r=[.int .u8 ((X / C ^ (m - 1 - r) % C:Nat):Int)]):(⟨⟨bytesOf g 0 m⟩⟩:ByteArray)=be m X:=by
 unfold be
 congr 2
 apply List.ext_getElem?;intro r;by_cases hr:r < m
 ·rw [NN hr];unfold bytesOf;rw [List.getElem?_map,List.getElem?_range hr];simp only [Option.map_some,Nat.zero_add,h r hr,toNat_cast]
 ·rw [List.getElem?_eq_none (l:=pN m X) (by rw [v9]; omega),List.getElem?_eq_none (by simp [bytesOf]; omega)]
theorem dJ (a:Int):a*2 ^ min (Int.toNat 32) IntKind.u64.bits=a*4294967296:=rfl
theorem eL (a:Int):a*2 ^ min (Int.toNat 8) IntKind.i64.bits=a*256:=rfl
theorem Pb (L:Nat):IntKind.u8.wrap ((L:Int) / 16777216)=((L / C ^ 3 % C:Nat):Int):=by rw [lL]; rfl
theorem Pc (L:Nat):IntKind.u8.wrap ((L:Int) / 65536)=((L / C ^ 2 % C:Nat):Int):=by rw [lL]; rfl
theorem P0 (L:Nat):IntKind.u8.wrap ((L:Int) / 256)=((L / C ^ 1 % C:Nat):Int):=by rw [lL]; rfl
theorem P1 (L:Nat):IntKind.u8.wrap (L:Int)=((L / C ^ 0 % C:Nat):Int):=by rw [lL,Nat.pow_zero,Nat.div_one]; rfl
theorem Lr {N i m:Nat} {g:Nat→List Value} (hi:0 < i) (hg:∀ r,r < m→g r=[.int .u8 ((N / B ^ i / C ^ (m - 1 - r) % C:Nat):Int)]) {L0 L1 L2 L3:List Value}
  (h0:L0=[.int .u8 ((al N (i - 1) / C ^ 3 % C:Nat):Int)]) (h1:L1=[.int .u8 ((al N (i - 1) / C ^ 2 % C:Nat):Int)]) (J:L2=[.int .u8 ((al N (i - 1) / C ^ 1 % C:Nat):Int)]) (h3:L3=[.int .u8 ((al N (i - 1) / C ^ 0 % C:Nat):Int)]) :
  ∀ r,r < m+4→gQ g m (fun j=>[L0,L1,L2,L3].getD j []) r=[.int .u8 ((N / B ^ (i - 1) / C ^ (m+4 - 1 - r) % C:Nat):Int)]:=by
 intro r hr;have hd:=pZ N (i - 1);rw [show i - 1+1=i by omega] at hd
 have hd:N / B ^ (i - 1)=N / B ^ i*B+al N (i - 1):=by rw [hd,Nat.add_comm,Nat.mul_comm]
 by_cases h:r < m
 ·rw [iO h,hg r h,hd,VO (cX _ _) h]
 ·rw [fO (by omega),hd,VP (by omega)]
  have:r - m=0∨r - m=1∨r - m=2∨r - m=3:=by omega
  rcases this with e | e | e | e <;> rw [e]
  ·rw [show m+4 - 1 - r=3 by omega]; exact h0
  ·rw [show m+4 - 1 - r=2 by omega]; exact h1
  ·rw [show m+4 - 1 - r=1 by omega]; exact J
  ·rw [show m+4 - 1 - r=0 by omega]; exact h3
theorem Bf {Y i d:Nat} (hY:Y < B ^ i):cS Y i d=Y+d*B ^ i:=by
 have h:=pV Y i d;rw [uc hY (Nat.le_refl _),Nat.zero_mul,Nat.add_zero] at h;exact h
theorem Sz {x y b d b' P K Y u v:Nat} (hY:Y < P) (he:u+b*P=Y+v) (hd:x+b'*K=y+b+d) (dY:d < K):Y+d*P < P*K∧u+x*P+b'*(P*K)=Y+d*P+(v+y*P):=by
 have h1:(x+b'*K)*P=(y+b+d)*P:=by rw [hd]
 rw [Nat.add_mul,Nat.add_mul,Nat.add_mul] at h1;have J:b'*(P*K)=b'*K*P:=by rw [Nat.mul_comm P,Nat.mul_assoc]
 have h3:(d+1)*P≤P*K:=by rw [Nat.mul_comm P]; exact Nat.mul_le_mul_right _ dY
 rw [Nat.add_mul,Nat.one_mul] at h3;rw [J];exact ⟨by omega,by omega⟩
theorem Ti {A D Y b i d b':Nat} (hY:Y < B ^ i) (he:A % B ^ i+b*B ^ i=Y+D % B ^ i) (hd:al A i+b'*B=al D i+b+d) (dY:d < B) :
  cS Y i d < B ^ (i+1)∧A % B ^ (i+1)+b'*B ^ (i+1)=cS Y i d+D % B ^ (i+1):=by
 rw [Bf hY,mod_succ A i,mod_succ D i,Nat.pow_succ];exact Sz hY he hd dY
theorem mw {Z j d m:Nat} (hZ:Z < B ^ m) (hj:j < m) (hd:d < B):cS Z j d < B ^ m:=by
 have h1:(cS Z j d) / B ^ m=0:=by
  have e:B ^ m=B ^ j*(B*B ^ (m - j - 1)):=by
   rw [← Nat.mul_assoc,← Nat.pow_succ,← Nat.pow_add,show j+1+(m - j - 1)=m by omega]
  have ha:Z % B ^ j < B ^ j:=Nat.mod_lt _ (eV j);unfold cS;rw [e,← Nat.div_div_eq_div_mul,oP ha,← Nat.div_div_eq_div_mul,oP hd,Nat.div_div_eq_div_mul,← Nat.pow_add,show j+1+(m - j - 1)=m by omega]
  exact Nat.div_eq_of_lt hZ
 rcases Nat.lt_or_ge (cS Z j d) (B ^ m) with h | h
 ·exact h
 ·have:=Nat.div_pos h (eV m);omega
theorem KV {Z Z' l c x d P Q K t Y v:Nat} (he:Z+c*(P*Q)=Y+x*v*P) (hs:Z'+l*(P*Q)=Z+t % K*(P*Q)) (ht:t=c+(x*d+l)) :
  Z'+t / K*(P*Q*K)=Y+x*(v+d*Q)*P:=by
 have h1:=Nat.mod_add_div t K;have J:(t % K+K*(t / K))*(P*Q)=(c+(x*d+l))*(P*Q):=by rw [h1,ht]
 rw [Nat.add_mul,Nat.add_mul,Nat.add_mul] at J;have e1:K*(t / K)*(P*Q)=t / K*(P*Q*K):=by
  rw [Nat.mul_comm K,Nat.mul_assoc,Nat.mul_comm K]
 have e2:x*(v+d*Q)*P=x*v*P+x*d*(P*Q):=by
  rw [Nat.mul_add,Nat.add_mul,← Nat.mul_assoc x d Q,Nat.mul_assoc (x*d),Nat.mul_comm Q P]
 rw [e1] at J;rw [e2];generalize t / K*(P*Q*K)=a1 at *;generalize t % K*(P*Q)=a2 at *;generalize c*(P*Q)=a3 at *;generalize x*d*(P*Q)=a4 at *;generalize l*(P*Q)=a5 at *;generalize x*v*P=a6 at *;omega
theorem KW {c x d l K t:Nat} (hc:c < K) (hx:x < K) (hd:d < K) (hl:l < K) (ht:t=c+(x*d+l)):t / K < K∧t < K*K:=by
 have h1:(x+1)*(d+1)≤K*K:=Nat.mul_le_mul hx hd;have J:t < K*K:=by
  rw [Nat.add_mul,Nat.mul_add] at h1;by_cases hk:K=0
  ·omega
  ·have h3:x*d≤(K - 1)*(K - 1):=Nat.mul_le_mul (by omega) (by omega)
   obtain ⟨k,rfl⟩:∃ k,K=k+1:=⟨K - 1,by omega⟩
   rw [Nat.add_sub_cancel] at h3;have e:(k+1)*(k+1)=k*k+k+k+1:=by rw [Nat.add_mul,Nat.mul_add]; omega
   omega
 exact ⟨(Nat.div_lt_iff_lt_mul (by omega)).2 J,J⟩
theorem Tj {Z c x D i k t Y:Nat} (he:Z+c*B ^ (i+k)=Y+x*(D % B ^ k)*B ^ i) (ht:t=c+(x*al D k+al Z (i+k))) :
  cS Z (i+k) (t % B)+t / B*B ^ (i+(k+1))=Y+x*(D % B ^ (k+1))*B ^ i:=by
 have hs:=pV Z (i+k) (t % B);rw [mod_succ D k,← Nat.add_assoc,Nat.pow_succ];rw [Nat.pow_add] at he hs ⊢;exact KV he hs ht
theorem Uz {A D Y Z c i n:Nat} (hY:Y=A % B ^ i*D) (hD:D < B ^ n) (hZ:Z < B ^ (i+n)) (he:Z+c*B ^ (i+n)=Y+al A i*(D % B ^ n)*B ^ i) :
  cS Z (i+n) c=A % B ^ (i+1)*D:=by
 rw [Bf hZ,he,Nat.mod_eq_of_lt hD,hY,mod_succ,Nat.add_mul,Nat.mul_assoc (al A i),Nat.mul_comm D,← Nat.mul_assoc]
theorem UA {c x d l t:Nat} (hc:c < B) (hx:x < B) (hd:d < B) (hl:l < B) (ht:t=c+(x*d+l)) :
  IntKind.u64.wrap ((c:Int)+IntKind.u64.wrap (IntKind.u64.wrap (IntKind.u64.wrap (x:Int)*IntKind.u64.wrap (d:Int))+IntKind.u64.wrap (l:Int)))=(t:Int):=by
 have hB:B=4294967296:=rfl;have h:=(KW hc hx hd hl ht).2;have hm:((x:Int)*(d:Int))=((x*d:Nat):Int):=by simp
 rw [bR (x:=(x:Int)) (by omega) (by omega),bR (x:=(d:Int)) (by omega) (by omega),bR (x:=(l:Int)) (by omega) (by omega),hm]
 generalize x*d=m at *;rw [hB] at h;rw [bR (x:=(m:Int)) (by omega) (by omega),bR (x:=(m:Int)+(l:Int)) (by omega) (by omega),bR (by omega) (by omega)]
 omega
theorem e9 (t:Nat):IntKind.u32.wrap (t:Int)=((t % B:Nat):Int):=by rw [wC]; rfl
theorem jV (t:Nat):(t:Int) / 4294967296=((t / B:Nat):Int):=rfl
open Go
def u32 (n:Nat):Value:=.int .u32 n
def i64 (n:Int):Value:=.int .i64 n
def uE:bG:={ ι:=Nat × Nat × Nat,args:=fun i=>[.int .u32 i.1,.int .u32 i.2.1,.int .u32 i.2.2],pre:=fun i=>i.1 < 4294967296∧i.2.1 < 4294967296∧i.2.2≤1,val:=fun i=>.tuple ⟨[.int .u32 ((i.1+i.2.1+i.2.2) % 4294967296:Nat),.int .u32 ((i.1+i.2.1+i.2.2) / 4294967296:Nat)]⟩ }
def lQ:bG:={ ι:=Nat × Nat × Nat,args:=fun i=>[.int .u32 i.1,.int .u32 i.2.1,.int .u32 i.2.2],pre:=fun i=>i.1 < 4294967296∧i.2.1 < 4294967296∧i.2.2≤1,val:=fun i=>.tuple ⟨[.int .u32 ((i.1+2*4294967296 - i.2.1 - i.2.2) % 4294967296:Nat),.int .u32 (if i.1 < i.2.1+i.2.2 then 1 else 0:Nat)]⟩ }
def CB:bG:={ ι:=Nat × Nat × Nat,args:=fun i=>[.int .u32 i.1,.int .u32 i.2.1,.int .u32 i.2.2],pre:=fun i=>i.1 < i.2.2∧i.2.1 < 4294967296∧i.2.2 < 4294967296,val:=fun i=>.tuple ⟨[.int .u32 ((i.1*4294967296+i.2.1) / i.2.2:Nat),.int .u32 ((i.1*4294967296+i.2.1) % i.2.2:Nat)]⟩ }
def G9:bG:={ ι:=Nat,args:=fun x=>[.int .u32 x],pre:=fun x=>x < 4294967296,val:=fun x=>.int .i64 (fu x:Nat) }
def C1:bG:={ ι:=Nat,args:=fun x=>[.int .u32 x],pre:=fun x=>x < 4294967296,val:=fun x=>.int .i64 (32 - fu x:Nat) }
def Ay:Nat:=1099511627776
def kT:bG:={ ι:=ByteArray,args:=fun s=>[.string s],pre:=fun s=>s.size≤1099511627776,val:=fun s=>.string (nb (ab s)) }
abbrev LV:=Option (Nat × Nat × Nat)
def LV.val:LV→Value
 | none=>.slice none 0 0
 | some (n,_,c)=>.slice (some ⟨0,0,none⟩) n c
def LV.ae:LV→List ai
 | none=>[]
 | some (n,N,_)=>[.flat false n 1 (bA N)]
def LV.num:LV→Nat
 | none=>0
 | some (_,N,_)=>N
def LV.ok:LV→Prop
 | none=>True
 | some (n,N,_)=>N < 4294967296 ^ n∧n≤274877906944
def LV.cut:LV→Value
 | none=>.slice none 0 0
 | some (_,N,c)=>.slice (some ⟨0,0,none⟩) (nl N) c
def sL:ax:={ ι:=LV,args:=fun i=>[i.val],ae:=LV.ae,pre:=LV.ok,val:=LV.cut,new:=fun _=>none }
def y9:ax:={ ι:=LV,args:=fun i=>[i.val],ae:=LV.ae,pre:=LV.ok,val:=fun i=>.string (nb i.num),new:=fun _=>none }
def uS:ax:={ ι:=ByteArray,args:=fun s=>[.string s],ae:=fun _=>[],pre:=fun s=>s.size≤1099511627776,val:=fun s=>.slice (some ⟨0,0,none⟩) (nl (ab s)) ao,new:=fun s=>some (.flat false (nl (ab s)) 1 (bA (ab s))) }
def uT:ax:={ ι:=Bool × LV,args:=fun i=>[.bool i.1,i.2.val],ae:=fun i=>i.2.ae,pre:=fun i=>i.2.ok,val:=fun i=>.agg ⟨[.bool (i.1 && i.2.num != 0),.string (nb i.2.num)]⟩,new:=fun _=>none }
def two (A ca D cd:Nat):List Value:=[.slice (some ⟨0,0,none⟩) (nl A) ca,.slice (some ⟨1,0,none⟩) (nl D) cd]
def kB (A D:Nat):List ai:=[.flat false (nl A) 1 (bA A),.flat false (nl D) 1 (bA D)]
abbrev I2:=Nat × Nat × Nat × Nat
def za (i:I2):Prop:=nl i.1≤137438953472∧nl i.2.2.1≤137438953472
def c4 (A D:Nat):Int:=if A < D then -1 else if D < A then 1 else 0
def wE:ax:={ ι:=I2,args:=fun i=>two i.1 i.2.1 i.2.2.1 i.2.2.2,ae:=fun i=>kB i.1 i.2.2.1,pre:=za,val:=fun i=>.int .i64 (c4 i.1 i.2.2.1),new:=fun _=>none }
def lg (id N:Nat):Value:=.slice (some ⟨id,0,none⟩) (nl N) ao
def eD (N:Nat):ai:=.flat false (nl N) 1 (bA N)
def C2:ax:={ ι:=I2,args:=fun i=>two i.1 i.2.1 i.2.2.1 i.2.2.2,ae:=fun i=>kB i.1 i.2.2.1,pre:=za,val:=fun i=>lg 2 (i.1+i.2.2.1),new:=fun i=>some (eD (i.1+i.2.2.1)) }
def CC:ax:={ ι:=I2,args:=fun i=>two i.1 i.2.1 i.2.2.1 i.2.2.2,ae:=fun i=>kB i.1 i.2.2.1,pre:=fun i=>za i∧i.2.2.1≤i.1,val:=fun i=>lg 2 (i.1 - i.2.2.1),new:=fun i=>some (eD (i.1 - i.2.2.1)) }
def CD:ax:={ ι:=I2,args:=fun i=>two i.1 i.2.1 i.2.2.1 i.2.2.2,ae:=fun i=>kB i.1 i.2.2.1,pre:=za,val:=fun i=>lg 2 (i.1*i.2.2.1),new:=fun i=>some (eD (i.1*i.2.2.1)) }
open Go
theorem Ls {Y c P K a d x y t:Nat} (he:Y+c*P=a+d) (ht:t=c+x+y):Y+t % K*P+t / K*(P*K)=(a+x*P)+(d+y*P):=by
 have h:=Nat.mod_add_div t K;have e1:t*P=t % K*P+t / K*(P*K):=by
  calc t*P=(t % K+K*(t / K))*P:=by rw [h]
   _=t % K*P+t / K*(P*K):=by rw [Nat.add_mul,Nat.mul_comm K,Nat.mul_assoc,Nat.mul_comm K P]
 have e2:t*P=c*P+x*P+y*P:=by rw [ht,Nat.add_mul,Nat.add_mul]
 omega
theorem Mn {X D Y c i t:Nat} (he:Y+c*B ^ i=X % B ^ i+D % B ^ i) (ht:t=c+al X i+al D i) :
  Y+t % B*B ^ i+t / B*B ^ (i+1)=X % B ^ (i+1)+D % B ^ (i+1):=by
 rw [mod_succ X i,mod_succ D i,Nat.pow_succ];exact Ls he ht
theorem wb {Y d i:Nat} (hY:Y < B ^ i) (hd:d < B):Y+d*B ^ i < B ^ (i+1):=by
 have h:(d+1)*B ^ i≤B*B ^ i:=Nat.mul_le_mul_right _ hd;rw [Nat.pow_succ,Nat.mul_comm (B ^ i) B];rw [Nat.add_mul] at h;omega
theorem VQ {Y d i:Nat} (hY:Y < B ^ i) (hd:d < B) {r:Nat} (hr:r < i+1):al (Y+d*B ^ i) r=if r < i then al Y r else d:=by
 rw [← Bf hY,FR hd]
 split <;> split <;> first | rfl | omega
theorem Ce {Y d i:Nat} (hY:Y < B ^ i) (hd:d < B) {g:Nat→List Value} (hg:∀ r,r < i→g r=bA Y r) :
  ∀ r,r < i+1→gQ g i (fun j=>[[Value.int .u32 (d:Nat)]].getD j []) r=bA (Y+d*B ^ i) r:=by
 intro r hr;have h:=VQ hY hd hr;by_cases h1:r < i
 ·rw [iO h1,hg r h1];rw [if_pos h1] at h;simp [bA,h]
 ·rw [fO (by omega),show r - i=0 by omega]
  rw [if_neg h1] at h;simp [bA,h]
theorem BP {a b:Nat} (ha:a < 4611686018427387904) (hb:b < 4611686018427387904):IntKind.u64.wrap ((a:Int)+IntKind.u64.wrap (b:Int))=((a+b:Nat):Int):=by
 rw [bR (x:=(b:Int)) (by omega) (by omega),bR (by omega) (by omega)]; omega
open Go
theorem Lt {A d i t:Nat} (hd:0 < d) (ht:t=A / B ^ (i+1) % d*B+al A i) :
  A / B ^ i % d=t % d∧A / B ^ i / d=A / B ^ (i+1) / d*B+t / d:=by
 have h:=pZ A i;have J:=Nat.mod_add_div (A / B ^ (i+1)) d;have e:A / B ^ i=t+d*(A / B ^ (i+1) / d*B):=by
  rw [h,ht];have:B*(A / B ^ (i+1))=B*(A / B ^ (i+1) % d)+d*(A / B ^ (i+1) / d*B):=by
   conv=>lhs; rw [← J]
   rw [Nat.mul_add,Nat.mul_comm (A / B ^ (i+1) / d) B,Nat.mul_left_comm]
  rw [this,Nat.mul_comm B (A / B ^ (i+1) % d)];omega
 constructor
 ·rw [e,Nat.add_mul_mod_self_left]
 ·rw [e,Nat.add_mul_div_left _ _ hd]; omega
theorem KE (K i:Nat):al (K*B ^ (i+1)) i=0:=by
 unfold al;rw [Nat.pow_succ,Nat.mul_comm (B ^ i),← Nat.mul_assoc,Nat.mul_div_cancel _ (eV i)];exact Nat.mul_mod_left _ _
theorem Er {Y i d:Nat} (h:al Y i=0):cS Y i d=Y+d*B ^ i:=by
 have:=pV Y i d;rw [h] at this;omega
theorem UB {A d i t:Nat} (hd:0 < d) (ht:t=A / B ^ (i+1) % d*B+al A i):cS (A / B ^ (i+1) / d*B ^ (i+1)) i (t / d)=A / B ^ i / d*B ^ i:=by
 rw [Er (KE _ _),(Lt hd ht).2,Nat.pow_succ,Nat.add_mul,Nat.mul_assoc,Nat.mul_comm B]
theorem VR {A d i t:Nat} (hd:0 < d) (ht:t=A / B ^ (i+1) % d*B+al A i):t / d < B:=by
 have h1:=Nat.mod_lt (A / B ^ (i+1)) hd;have J:=cX A i;refine (Nat.div_lt_iff_lt_mul hd).2 ?_;have h3:(A / B ^ (i+1) % d+1)*B≤d*B:=Nat.mul_le_mul_right _ h1;rw [Nat.mul_comm d B] at h3;rw [Nat.add_mul] at h3;omega
theorem wF {s:Nat} (h:s≤31):2 ^ s≤2147483648:=Nat.le_trans (Nat.pow_le_pow_right (by decide) h) (by decide:2 ^ 31≤2147483648)
theorem Xi {s l:Nat} (hs:s≤31) (hl:l < B):IntKind.u64.wrap ((l:Int)*2 ^ min s IntKind.u64.bits)=((l*2 ^ s:Nat):Int):=by
 have h:=wF hs;have e:min s IntKind.u64.bits=s:=by show min s 64=s; omega
 rw [e];have J:l*2 ^ s≤4294967296*2147483648:=Nat.mul_le_mul (Nat.le_of_lt hl) h;have:((l*2 ^ s:Nat):Int)=(l:Int)*2 ^ s:=by simp
 rw [← this,bR (by omega) (by omega)]
theorem NO {s l:Nat} (hs:s≤31):(l:Int).fdiv (2 ^ min s IntKind.u64.bits)=((l / 2 ^ s:Nat):Int):=by
 have e:min s IntKind.u64.bits=s:=by show min s 64=s; omega
 rw [e,sK];simp
theorem ZW {u l s:Nat} (hs:s≤31) (hu:u < 2 ^ s):IntKind.u32.wrap ((BitVec.ofInt IntKind.u32.bits (u:Int) ||| BitVec.ofInt IntKind.u32.bits ((l*2 ^ s % B:Nat):Int)).toNat:Int)=((u+l*2 ^ s % B:Nat):Int):=by
 have h:=wF hs;have hv:l*2 ^ s % B < 4294967296:=Nat.mod_lt _ (by decide)
 have e:l*2 ^ s % B=(l % 2 ^ (32 - s))*2 ^ s:=by
  have:B=2 ^ (32 - s)*2 ^ s:=by rw [← Nat.pow_add,show 32 - s+s=32 by omega]
  rw [this,Nat.mul_mod_mul_right]
 have key:IntKind.u32.wrap ((BitVec.ofInt 32 (u:Int) ||| BitVec.ofInt 32 ((l*2 ^ s % B:Nat):Int)).toNat:Int)=((u+l*2 ^ s % B:Nat):Int):=by
  rw [Fu,BitVec.toNat_or,toNat_ofInt32 _ (by omega),toNat_ofInt32 _ hv,e,G8 _ _ _ hu]
 exact key
theorem Pd {u l s:Nat} (hs:s≤31) (hu:u < 2 ^ s):u+l*2 ^ s % B < B:=by
 have h:=wF hs;have hv:l*2 ^ s % B < 2 ^ 32:=Nat.mod_lt _ (by decide)
 have e:l*2 ^ s % B=(l % 2 ^ (32 - s))*2 ^ s:=by
  have:B=2 ^ (32 - s)*2 ^ s:=by rw [← Nat.pow_add,show 32 - s+s=32 by omega]
  rw [this,Nat.mul_mod_mul_right]
 rw [e] at hv ⊢;rw [← G8 _ _ _ hu];exact Nat.or_lt_two_pow (n:=32) (Nat.lt_of_lt_of_le hu (by omega)) hv
theorem Lu {A s i:Nat}:al (A % B ^ i*2 ^ s) i < 2 ^ s:=by
 refine Nat.lt_of_le_of_lt (Nat.mod_le _ _) ?_;refine (Nat.div_lt_iff_lt_mul (eV i)).2 ?_;rw [Nat.mul_comm];exact Nat.mul_lt_mul_of_pos_left (Nat.mod_lt _ (eV i)) (Nat.pow_pos (by decide))
theorem VS {A s i:Nat} (hs:s≤31):A % B ^ i*2 ^ s < B ^ (i+1):=by
 have h:=wF hs;rw [Nat.pow_succ];exact Nat.mul_lt_mul_of_lt_of_le (Nat.mod_lt _ (eV i)) (by show _≤4294967296; omega) (by decide)
theorem Tk {A s i:Nat} (hs:s≤31):cS (cS (A % B ^ i*2 ^ s) i (al (A % B ^ i*2 ^ s) i+al A i*2 ^ s % B)) (i+1) (al A i*2 ^ s / B)=A % B ^ (i+1)*2 ^ s:=by
 have ak:=VS (A:=A) (i:=i) hs;have Jz:=Pd (l:=al A i) hs (Lu (A:=A) (s:=s) (i:=i));have h1:=pV (A % B ^ i*2 ^ s) i (al (A % B ^ i*2 ^ s) i+al A i*2 ^ s % B);rw [Nat.add_mul] at h1;have e1:cS (A % B ^ i*2 ^ s) i (al (A % B ^ i*2 ^ s) i+al A i*2 ^ s % B)=A % B ^ i*2 ^ s+al A i*2 ^ s % B*B ^ i:=by omega
 have J:al (cS (A % B ^ i*2 ^ s) i (al (A % B ^ i*2 ^ s) i+al A i*2 ^ s % B)) (i+1)=0:=by
  rw [FR Jz,if_neg (by omega)]
  exact uc ak (Nat.le_refl _)
 rw [Er J,e1,mod_succ,Nat.add_mul,Nat.pow_succ];have h3:=Nat.mod_add_div (al A i*2 ^ s) B;have h4:al A i*B ^ i*2 ^ s=(al A i*2 ^ s % B+B*(al A i*2 ^ s / B))*B ^ i:=by rw [h3,Nat.mul_right_comm]
 rw [h4,Nat.add_mul,Nat.add_assoc]
 congr 1
 rw [Nat.mul_comm (B ^ i) B,← Nat.mul_assoc,Nat.mul_comm B (al A i*2 ^ s / B)]
theorem R9 {A s i:Nat} (hs:s≤31):al (A / 2 ^ s) i=(al A i+al A (i+1)*B) / 2 ^ s % B:=by
 obtain ⟨w,hw⟩:∃ w,w=al A i+al A (i+1)*B:=⟨_,rfl⟩;have e:A / B ^ i=w+(B*B)*(A / B ^ (i+1+1)):=by
  rw [pZ A i,pZ A (i+1),Nat.mul_add,Nat.mul_comm B (al A (i+1)),Nat.mul_assoc,hw,← Nat.add_assoc]
 rw [← hw];show A / 2 ^ s / B ^ i % B=_
 rw [Nat.div_div_eq_div_mul,Nat.mul_comm (2 ^ s),← Nat.div_div_eq_div_mul,e];have hB:B=2 ^ s*2 ^ (32 - s):=by rw [← Nat.pow_add,show s+(32 - s)=32 by omega]
 have:B*B*(A / B ^ (i+1+1))=2 ^ s*(B*(2 ^ (32 - s)*(A / B ^ (i+1+1)))):=by
  conv=>lhs; rw [Nat.mul_assoc]; lhs; rw [hB]
  rw [Nat.mul_assoc,Nat.mul_left_comm (2 ^ (32 - s)) B]
 rw [this,Nat.add_mul_div_left _ _ (Nat.pow_pos (by decide)),Nat.add_mul_mod_self_left]
theorem VT {x y:Nat} (hx:x < 4294967296) (hy:y < 4294967296):IntKind.u64.wrap ((BitVec.ofInt IntKind.u64.bits (y:Int) ||| BitVec.ofInt IntKind.u64.bits ((x:Int)*4294967296)).toNat:Int)=((y+x*B:Nat):Int):=by
 rw [BitVec.or_comm,dK x y hx hy];show _=(((y+x*4294967296:Nat)):Int)
 omega
theorem UC {W D P q:Nat} (hD:0 < D) (hP:0 < P) (h:W / P < q*(D / P)):W / D < q:=by
 refine (Nat.div_lt_iff_lt_mul hD).2 ?_;have h1:W < (W / P+1)*P:=by
  rw [Nat.mul_comm]; exact Nat.lt_mul_div_succ W hP
 have J:(W / P+1)*P≤q*(D / P)*P:=Nat.mul_le_mul_right _ h;have h3:q*(D / P)*P≤q*D:=by
  rw [Nat.mul_assoc]; exact Nat.mul_le_mul_left _ (Nat.div_mul_le_self _ _)
 omega
theorem Tl {W D P q K:Nat} (hP:0 < P) (h:q*(D / P)≤W / P) (hq:q≤K) (hK:K*P≤D):q≤W / D+1:=by
 rcases Nat.eq_zero_or_pos q with h0 | h0
 ·rw [h0]; exact Nat.zero_le _
 by_cases hD:D=0
 ·have hK0:K*P=0:=by omega
  rcases Nat.mul_eq_zero.1 hK0 with h | h <;> omega
 have h1:D < (D / P+1)*P:=by
  rw [Nat.mul_comm]; exact Nat.lt_mul_div_succ D hP
 have J:q*D < q*((D / P+1)*P):=Nat.mul_lt_mul_of_pos_left h1 h0;have e2:q*((D / P+1)*P)=q*(D / P)*P+q*P:=by rw [Nat.add_mul,Nat.mul_add,Nat.one_mul,Nat.mul_assoc]
 have h3:q*(D / P)*P≤W / P*P:=Nat.mul_le_mul_right _ h;have h4:W / P*P≤W:=Nat.div_mul_le_self _ _;have h5:q*P≤K*P:=Nat.mul_le_mul_right _ hq;have h6:q*D < W+D:=by omega
 have h7:(q - 1)*D≤W:=by
  rw [Nat.sub_mul,Nat.one_mul]; omega
 have:=(Nat.le_div_iff_mul_le (by omega:0 < D)).2 h7
 omega
theorem FW (X j k:Nat):al (X / B ^ j) k=al X (j+k):=by
 unfold al;rw [Nat.div_div_eq_div_mul,← Nat.pow_add]
theorem yT {W k:Nat} (h:W < B ^ (k+1)):al W k=W / B ^ k:=by
 unfold al;refine Nat.mod_eq_of_lt ((Nat.div_lt_iff_lt_mul (eV k)).2 ?_);rw [Nat.mul_comm,← Nat.pow_succ]; exact h
theorem ad8 {W k:Nat} (h:W < B ^ (k+2)):W / B ^ k=al W (k+1)*B+al W k:=by
 rw [pZ W k,← yT h,Nat.mul_comm,Nat.add_comm]
theorem MY {q d1 d0 r w0 K top:Nat} (he:q*d1+r=top):(q*(d1*K+d0)≤top*K+w0↔q*d0≤r*K+w0):=by
 have e:top*K=q*(d1*K)+r*K:=by rw [← he,Nat.add_mul,Nat.mul_assoc]
 rw [Nat.mul_add,e];omega
theorem Lv {Z Z' v P l d t low c' c b b' x q X v' K:Nat} (he:Z+v=X+(b+c)*P) (hs:Z'+l*P=Z+d*P) (ht:t=c+q*x) (rB:t=low+K*c') (hd:l+b'*K=low+b+d) (hv:v'=v+q*x*P) :
  Z'+v'=X+(b'+c')*(P*K):=by
 have e1:t*P=c*P+q*x*P:=by rw [ht,Nat.add_mul]
 have e2:t*P=low*P+c'*(P*K):=by rw [rB,Nat.add_mul,Nat.mul_comm K,Nat.mul_assoc,Nat.mul_comm K P]
 have e3:l*P+b'*(P*K)=low*P+b*P+d*P:=by
  have:=congrArg (·*P) hd;simp only [Nat.add_mul] at this;rw [Nat.mul_assoc b' K P,Nat.mul_comm K P] at this;exact this
 rw [Nat.add_mul] at he ⊢;omega
theorem Bw {X Z D q c b b' i j t d:Nat} (he:Z+q*(D % B ^ i)*B ^ j=X+(b+c)*B ^ (j+i)) (ht:t=c+q*al D i) (hd:al Z (j+i)+b'*B=t % B+b+d) :
  cS Z (j+i) d+q*(D % B ^ (i+1))*B ^ j=X+(b'+t / B)*B ^ (j+(i+1)):=by
 have ep:B ^ (j+(i+1))=B ^ (j+i)*B:=rfl;rw [ep];refine Lv he (pV Z (j+i) d) ht (Nat.mod_add_div t B).symm hd ?_;rw [mod_succ,Nat.mul_add,Nat.add_mul,Nat.pow_add,← Nat.mul_assoc q (al D i),Nat.mul_comm (B ^ j) (B ^ i),Nat.mul_assoc (q*al D i)]
theorem Bx {X Z D q c b b' n j d:Nat} (hD:D < B ^ n) (hc:c < B) (he:Z+q*(D % B ^ n)*B ^ j=X+(b+c)*B ^ (j+n)) (hd:al Z (j+n)+b'*B=c+b+d) :
  cS Z (j+n) d+q*(D*B ^ j)=X+b'*B ^ (j+n+1):=by
 rw [Nat.mod_eq_of_lt hD] at he;have:=Lv (K:=B) (x:=0) (t:=c) (c':=0) (low:=c) (q:=q) (v':=q*D*B ^ j) he (pV Z (j+n) d) (by omega) (by omega) hd (by omega)
 rw [← Nat.mul_assoc,this,Nat.pow_succ]
 rfl
theorem Tm {Z Z' v P l c x t Y v' K:Nat} (he:Z+c*P=Y+v) (hs:Z'+l*P=Z+t % K*P) (ht:t=l+x+c) (hv:v'=v+x*P):Z'+t / K*(P*K)=Y+v':=by
 have h:=Nat.mod_add_div t K;have e1:t*P=t % K*P+t / K*(P*K):=by
  calc t*P=(t % K+K*(t / K))*P:=by rw [h]
   _=t % K*P+t / K*(P*K):=by rw [Nat.add_mul,Nat.mul_comm K,Nat.mul_assoc,Nat.mul_comm K P]
 have e2:t*P=l*P+x*P+c*P:=by rw [ht,Nat.add_mul,Nat.add_mul]
 omega
theorem By {Y Z D c i j t:Nat} (he:Z+c*B ^ (j+i)=Y+D % B ^ i*B ^ j) (ht:t=al Z (j+i)+al D i+c) :
  cS Z (j+i) (t % B)+t / B*B ^ (j+(i+1))=Y+D % B ^ (i+1)*B ^ j:=by
 have ep:B ^ (j+(i+1))=B ^ (j+i)*B:=rfl;rw [ep];refine Tm he (pV Z (j+i) (t % B)) ht ?_;rw [mod_succ,Nat.add_mul,Nat.pow_add,Nat.mul_comm (B ^ j),Nat.mul_assoc]
theorem Bg {X Z E q:Nat} (hE:0 < E) (h:Z+q*E=X) (hq:X / E≤q):q=X / E∧Z=X % E:=by
 have h1:q≤X / E:=(Nat.le_div_iff_mul_le hE).2 (by omega)
 have J:q=X / E:=by omega
 refine ⟨J,?_⟩;have:=Nat.mod_add_div X E;rw [J,Nat.mul_comm] at h;omega
theorem Bh {X Z E q M:Nat} (hE:0 < E) (h:Z+q*E=X+M) (hZ:Z < M) (hq:q≤X / E+1):q=X / E+1∧Z+E=X % E+M:=by
 have h1:X < q*E:=by omega
 have J:X / E < q:=(Nat.div_lt_iff_lt_mul hE).2 h1;have h3:q=X / E+1:=by omega
 refine ⟨h3,?_⟩;have:=Nat.mod_add_div X E;rw [h3,Nat.add_mul,Nat.one_mul,Nat.mul_comm] at h;omega
theorem Bz {V R c k:Nat} (hV:V < B ^ (k+1)) (hR:R < B ^ k) (hc:c≤1) (h:V+c*B ^ k=R+B ^ (k+1)):cS V k ((al V k+c) % B)=R:=by
 have vI:c=1:=by
  rcases Nat.eq_zero_or_pos c with h0 | h0
  ·subst h0; omega
  ·omega
 subst vI;have e:V=R+(B - 1)*B ^ k:=by
  rw [Nat.pow_succ,Nat.mul_comm (B ^ k) B] at h;rw [Nat.sub_mul];have:1*B ^ k≤B*B ^ k:=Nat.mul_le_mul_right _ (by decide)
  omega
 have e2:al V k=B - 1:=by
  rw [yT hV,e,Nat.add_mul_div_right _ _ (eV k),Nat.div_eq_of_lt hR,Nat.zero_add]
 have J:=pV V k ((al V k+1) % B);have e3:(B - 1+1) % B=0:=by decide
 rw [e2,e3] at J;rw [e2,e3];omega
theorem SA {X D j n n1 n2:Nat} (J:n2=nl D) (h0:n2=n+2) (h1:n1=n+1) (hd:2147483648≤al D n1) (hX:X < D*B ^ (j+1)) :
  X / B ^ j / B ^ n=(al X (j+n2)*B+al X (j+n1))*B+al X (j+n)∧D / B ^ n=al D n1*B+al D n∧X / B ^ j / D < B∧B*B ^ n≤D ∧
  X / B ^ j / D≤(al X (j+n2)*B+al X (j+n1)) / al D n1∧(al X (j+n2)*B+al X (j+n1)) / al D n1≤B+1∧X < B ^ (j+n2+1):=by
 subst h1;have hD:D < B ^ (n+2):=by have:=cc D; rw [← J,h0] at this; exact this
 have DT:=yT (W:=D) (k:=n+1) hD;have Az:0 < D:=by
  rcases Nat.eq_zero_or_pos D with h | h
  ·subst h; rw [Fs] at hd; omega
  ·exact h
 have hW:X / B ^ j < D*B:=by
  refine (Nat.div_lt_iff_lt_mul (eV j)).2 ?_;rw [Nat.mul_assoc,Nat.mul_comm B,← Nat.pow_succ]; exact hX
 have hW3:X / B ^ j < B ^ (n+1+2):=by
  have e:B ^ (n+1+2)=B ^ (n+2)*B:=rfl;rw [e];exact Nat.lt_of_lt_of_le hW (Nat.mul_le_mul_right _ (Nat.le_of_lt hD))
 have ht:=ad8 hW3;rw [FW,FW] at ht;have rB:X / B ^ j / B ^ (n+1)=al X (j+n2)*B+al X (j+(n+1)):=by rw [h0]; exact ht
 obtain ⟨top,vh⟩:∃ top,top=al X (j+n2)*B+al X (j+(n+1)):=⟨_,rfl⟩;rw [← vh] at rB ⊢;have hw:=pZ (X / B ^ j) n;rw [rB,FW] at hw;have dx:=pZ D n;rw [← DT] at dx;obtain ⟨W,hWd⟩:∃ W,W=X / B ^ j:=⟨_,rfl⟩;obtain ⟨d1,gq⟩:∃ d1,d1=al D (n+1):=⟨_,rfl⟩;rw [← hWd] at hw rB hW ⊢;rw [← gq] at dx hd DT ⊢;have Ai:d1*B ^ (n+1)≤D:=by rw [DT]; exact Nat.div_mul_le_self _ _
 have dW:D < (d1+1)*B ^ (n+1):=by rw [DT,Nat.mul_comm]; exact Nat.lt_mul_div_succ _ (eV _)
 refine ⟨?_,?_,?_,?_,?_,?_,?_⟩
 ·rw [hw,Nat.mul_comm B top,Nat.add_comm]
 ·rw [dx,Nat.mul_comm B d1,Nat.add_comm]
 ·exact (Nat.div_lt_iff_lt_mul Az).2 (by rw [Nat.mul_comm]; exact hW)
 ·have e:B*B ^ n=1*B ^ (n+1):=by rw [Nat.pow_succ,Nat.mul_comm,Nat.one_mul]
  rw [e];exact Nat.le_trans (Nat.mul_le_mul_right _ (by omega)) Ai
 ·refine (Nat.le_div_iff_mul_le (by omega)).2 ?_
  rw [← rB];refine (Nat.le_div_iff_mul_le (eV _)).2 ?_;rw [Nat.mul_assoc];exact Nat.le_trans (Nat.mul_le_mul_left _ Ai) (Nat.div_mul_le_self _ _)
 ·have h5:top < (d1+1)*B:=by
   rw [← rB];refine (Nat.div_lt_iff_lt_mul (eV _)).2 ?_;have:D*B≤(d1+1)*B ^ (n+1)*B:=Nat.mul_le_mul_right _ (Nat.le_of_lt dW);rw [Nat.mul_right_comm] at this;exact Nat.lt_of_lt_of_le hW this
  have h6:top / d1 < B+2:=by
   refine (Nat.div_lt_iff_lt_mul (by omega)).2 ?_
   rw [Nat.add_mul,Nat.mul_comm B d1];rw [Nat.add_mul] at h5;have:B=4294967296:=rfl;omega
  omega
 ·have e:B ^ (j+n2+1)=B ^ (n+2)*B ^ (j+1):=by rw [← Nat.pow_add]; congr 1; omega
  rw [e];exact Nat.lt_of_lt_of_le hX (Nat.mul_le_mul_right _ (Nat.le_of_lt hD))
structure ZX (X D j n n2 top d1 d0 w0 Q q0:Nat):Prop where
 fW:X / B ^ j / B ^ n=top*B+w0
 fD:D / B ^ n=d1*B+d0
 fQ:Q=X / B ^ j / D
 fB:Q < 4294967296
 fP:B*B ^ n≤D
 fq:Q≤q0
 QZ:q0≤4294967297
 fX:X < B ^ (j+n2+1)
 AA:0 < D
theorem ZY {X D j n n1 n2 top d1 d0 w0 Q q0:Nat} (J:n2=nl D) (h0:n2=n+2) (h1:n1=n+1) (hd:2147483648≤al D n1) (hX:X < D*B ^ (j+1))
  (ht:top=al X (j+n2)*4294967296+al X (j+n1)) (gq:d1=al D n1) (fL:d0=al D n) (hw:w0=al X (j+n)) (hQ:Q=X / B ^ j / D) (vL:q0=top / d1):ZX X D j n n2 top d1 d0 w0 Q q0:=by
 have Az:0 < D:=by
  rcases Nat.eq_zero_or_pos D with h | h
  ·rw [h,Fs] at hd; omega
  ·exact h
 subst ht gq fL hw hQ vL;obtain ⟨a,b,c,d,e,f,g⟩:=SA J h0 h1 hd hX;exact ⟨a,b,rfl,c,d,e,f,g,Az⟩
theorem VU {W D P d1 d0 q r w0 top:Nat} (hD:0 < D) (hP:0 < P) (hW:W / P=top*B+w0) (JA:D / P=d1*B+d0) (he:q*d1+r=top) (h:r*B+w0 < q*d0):W / D < q:=by
 refine UC hD hP ?_;rw [hW,JA];exact Nat.lt_of_not_le fun hle=>Nat.not_le_of_lt h ((MY he).1 hle)
theorem Gy {W D P d1 d0 q r w0 top:Nat} (hP:0 < P) (hW:W / P=top*B+w0) (JA:D / P=d1*B+d0) (he:q*d1+r=top) (hq:q < B) (hK:B*P≤D) (fL:d0 < B) (h:B≤r∨q*d0≤r*B+w0):q≤W / D+1:=by
 refine Tl hP ?_ (Nat.le_of_lt hq) hK;rw [hW,JA];refine (MY he).2 ?_;rcases h with h | h
 ·have h1:q*d0≤B*B:=Nat.mul_le_mul (Nat.le_of_lt hq) (Nat.le_of_lt fL);have J:B*B≤r*B:=Nat.mul_le_mul_right _ h;omega
 ·exact h
theorem FX (a b:Nat):Int.tdiv (a:Int) (b:Int)=((a / b:Nat):Int):=rfl
theorem MZ (a b:Nat):Int.tmod (a:Int) (b:Int)=((a % b:Nat):Int):=rfl
theorem acA {q x:Nat} (hq:q≤4294967297) (hx:x < 4294967296):IntKind.u64.wrap ((q:Int)*(x:Int))=((q*x:Nat):Int)∧q*x < 18446744073709551616:=by
 have h:=Nat.mul_le_mul hq (show x≤4294967295 by omega)
 have e:((q:Int)*(x:Int))=((q*x:Nat):Int):=by simp
 obtain ⟨p,hp⟩:∃ p,p=q*x:=⟨_,rfl⟩;rw [e,← hp];rw [← hp] at h;exact ⟨bR (by omega) (by omega),by omega⟩
theorem BQ {c q x t:Nat} (hc:c < B) (hq:q < B) (hx:x < B) (ht:t=c+q*x):IntKind.u64.wrap ((c:Int)+IntKind.u64.wrap ((q:Int)*(x:Int)))=(t:Int)∧t / B < B:=by
 have hB:B=4294967296:=rfl;have h:=Nat.mul_le_mul (show q≤4294967295 by omega) (show x≤4294967295 by omega)
 have e:((q:Int)*(x:Int))=((q*x:Nat):Int):=by simp
 obtain ⟨p,hp⟩:∃ p,p=q*x:=⟨_,rfl⟩;rw [e,← hp];rw [← hp] at h ht;constructor
 ·rw [bR (x:=(p:Int)) (by omega) (by omega),bR (by omega) (by omega),ht]; omega
 ·refine (Nat.div_lt_iff_lt_mul (by decide)).2 ?_
  rw [hB,ht]; omega
open Go
def one (A ca:Nat):Value:=.slice (some ⟨0,0,none⟩) (nl A) ca
abbrev I1:=Nat × Nat × Nat
def CE:ax:={ ι:=I1,args:=fun i=>[one i.1 i.2.1,.int .u32 i.2.2],ae:=fun i=>[eD i.1],pre:=fun i=>nl i.1≤137438953472∧0 < i.2.2∧i.2.2 < 4294967296,val:=fun i=>.tuple ⟨[lg 1 (i.1 / i.2.2),.int .u32 (i.1 % i.2.2:Nat)]⟩,new:=fun i=>some (.flat true (nl i.1) 1 (bA (i.1 / i.2.2))) }
def CF:ax:={ ι:=I1,args:=fun i=>[one i.1 i.2.1,.int .i64 i.2.2],ae:=fun i=>[eD i.1],pre:=fun i=>nl i.1≤137438953472∧i.2.2≤31,val:=fun i=>.slice (some ⟨1,0,none⟩) (nl i.1+1) (nl i.1+1),new:=fun i=>some (.flat true (nl i.1+1) 1 (bA (i.1*2 ^ i.2.2))) }
def BR:ax:={ ι:=I1,args:=fun i=>[one i.1 i.2.1,.int .i64 i.2.2],ae:=fun i=>[eD i.1],pre:=fun i=>nl i.1≤137438953472∧i.2.2≤31,val:=fun i=>lg 1 (i.1 / 2 ^ i.2.2),new:=fun i=>some (.flat true (nl i.1) 1 (bA (i.1 / 2 ^ i.2.2))) }
structure DI where
 (X m cx D cd j:Nat)
def w9:zC:={ ι:=DI,args:=fun i=>[.slice (some ⟨0,0,none⟩) i.m i.cx,.slice (some ⟨1,0,none⟩) (nl i.D) i.cd,.int .i64 i.j],ae:=fun i=>[.flat true i.m 1 (bA i.X),eD i.D],pre:=fun i=>i.m≤137438953473∧2≤nl i.D∧2147483648≤al i.D (nl i.D - 1)∧i.j+nl i.D < i.m∧i.X < i.D*B ^ (i.j+1),val:=fun i=>.int .u32 (i.X / (i.D*B ^ i.j):Nat),post:=fun i=>[.flat true i.m 1 (bA (i.X % (i.D*B ^ i.j))),eD i.D],new:=fun _=>[] }
theorem rO {i:DI} {N q:Nat} {H:aA} (h1:N=i.X % (i.D*B ^ i.j)) (J:q=i.X / (i.D*B ^ i.j)) (hH:H[0]?=some (some (.flat true i.m 1 (bA N)))):zS w9 i (.int .u32 (q:Nat)) H:=by
 refine ⟨[],List.nodup_nil,by simp,rfl,fun j b q' hb hq ho=>?_,by simp,_,rfl,by subst J; exact .refl _⟩
 match j with
 | 0 =>
  simp [w9] at hb hq;subst hq;exact ⟨_,hH,rfl,by rw [h1]; exact ⟨fun _=>⟨rfl,rfl⟩,rfl,Nat.le_refl _,fun _ _=>rfl,fun r hr v hv=>dQ (l:=bA _ r) rfl v hv⟩⟩
 | 1 =>
  simp [w9] at hb;subst hb;cases ho
 | j+2=>simp [w9] at hb
def gP:zC:={ ι:=I2,args:=fun i=>two i.1 i.2.1 i.2.2.1 i.2.2.2,ae:=fun i=>kB i.1 i.2.2.1,pre:=fun i=>za i∧i.2.2.1≠0,val:=fun i=>if i.1 < i.2.2.1 then .tuple ⟨[.slice none 0 0,one i.1 i.2.1]⟩ else .tuple ⟨[lg 2 (i.1 / i.2.2.1),lg 3 (i.1 % i.2.2.1)]⟩,post:=fun i=>kB i.1 i.2.2.1,new:=fun i=>if i.1 < i.2.2.1 then [] else [eD (i.1 / i.2.2.1),eD (i.1 % i.2.2.1)] }
open Go
theorem Tn {D n s:Nat} (hn:nl D=n+1) (hs:s=32 - fu (al D n)) :
  s≤31∧al D n≠0∧nl (D*2 ^ s)=n+1∧2147483648≤al (D*2 ^ s) n∧2147483648*B ^ n≤D*2 ^ s:=by
 have Az:D≠0:=by intro h; rw [h,r6] at hn; omega
 have vh:al D n≠0:=by have:=VI Az; rw [hn] at this; exact this
 obtain ⟨x,hx⟩:∃ x,x=al D n:=⟨_,rfl⟩;rw [← hx] at hs vh ⊢;have iJ:x < 4294967296:=by rw [hx]; exact cX D n
 have hb:=MX iJ;have Ai:1≤fu x:=by
  rcases Nat.eq_zero_or_pos (fu x) with h | h
  ·have:=Gx x; rw [h] at this; omega
  ·exact h
 have ak:=cc D;rw [hn] at ak;have Q0:x=D / B ^ n:=by rw [hx]; exact yT ak
 have h1:=Kk vh;have J:=Gx x;have e:2 ^ (fu x)*2 ^ s=4294967296:=by rw [← Nat.pow_add,show fu x+s=32 by omega]
 have e2:2 ^ (fu x - 1)*2 ^ s=2147483648:=by rw [← Nat.pow_add,show fu x - 1+s=31 by omega]
 have iw:2147483648*B ^ n≤D*2 ^ s:=by
  rw [← e2,Nat.mul_right_comm];refine Nat.mul_le_mul_right _ ?_;refine Nat.le_trans (Nat.mul_le_mul_right _ h1) ?_;rw [Q0]; exact Nat.div_mul_le_self _ _
 have jG:D*2 ^ s < B ^ (n+1):=by
  have h3:D < (x+1)*B ^ n:=by rw [Q0,Nat.mul_comm]; exact Nat.lt_mul_div_succ _ (eV n)
  have h4:D*2 ^ s < (x+1)*B ^ n*2 ^ s:=Nat.mul_lt_mul_of_pos_right h3 (Nat.pow_pos (by decide))
  have h5:(x+1)*B ^ n*2 ^ s≤2 ^ fu x*B ^ n*2 ^ s:=Nat.mul_le_mul_right _ (Nat.mul_le_mul_right _ J);rw [Nat.mul_right_comm (2 ^ fu x),e] at h5;have e3:B ^ (n+1)=4294967296*B ^ n:=by rw [Nat.pow_succ,Nat.mul_comm]
  rw [e3];exact Nat.lt_of_lt_of_le h4 h5
 have b8:nl (D*2 ^ s)=n+1:=by
  refine OB jG (.inr ?_);rw [Nat.add_sub_cancel];refine Nat.le_trans ?_ iw;exact Nat.le_mul_of_pos_left _ (by decide)
 refine ⟨by omega,vh,b8,?_,iw⟩
 rw [yT jG];exact (Nat.le_div_iff_mul_le (eV n)).2 iw
theorem SB {A s:Nat} (hs:s≤31):A*2 ^ s < B ^ (nl A)*2147483648:=by
 have h:=wF hs;exact Nat.mul_lt_mul_of_lt_of_le (cc A) h (by decide)
theorem UD {A E n s k:Nat} (hs:s≤31) (iw:2147483648*B ^ n≤E) (hk:k=nl A - n) (hle:n≤nl A):A*2 ^ s < E*B ^ k:=by
 refine Nat.lt_of_lt_of_le (SB hs) ?_;have e:B ^ nl A*2147483648=2147483648*B ^ n*B ^ k:=by
  rw [Nat.mul_assoc,← Nat.pow_add,show n+k=nl A by omega,Nat.mul_comm]
 rw [e];exact Nat.mul_le_mul_right _ iw
theorem UE {V E Q U i:Nat} (hE:0 < E) (h:Q*E+U=V) (hU:U < E*B ^ (i+1)) (hQ:Q % B ^ (i+1)=0) :
  U / (E*B ^ i) < B∧cS Q i (U / (E*B ^ i))*E+U % (E*B ^ i)=V∧U % (E*B ^ i) < E*B ^ i∧cS Q i (U / (E*B ^ i)) % B ^ i=0:=by
 have hP:0 < E*B ^ i:=Nat.mul_pos hE (eV i);have hd:U / (E*B ^ i) < B:=by
  refine (Nat.div_lt_iff_lt_mul hP).2 ?_;rw [Nat.mul_comm,Nat.mul_assoc,← Nat.pow_succ]; exact hU
 obtain ⟨K,hK⟩:∃ K,Q=K*B ^ (i+1):=⟨Q / B ^ (i+1),by rw [Nat.mul_comm]; have:=Nat.mod_add_div Q (B ^ (i+1)); rw [hQ,Nat.zero_add] at this; exact this.symm⟩
 have hl:al Q i=0:=by rw [hK]; exact KE K i
 rw [Er hl];refine ⟨hd,?_,Nat.mod_lt _ hP,?_⟩
 ·rw [Nat.add_mul,← h,Nat.add_assoc]
  congr 1
  rw [Nat.mul_assoc,Nat.mul_comm (B ^ i) E,Nat.mul_comm];exact Nat.div_add_mod U (E*B ^ i)
 ·rw [hK,Nat.pow_succ,Nat.mul_comm (B ^ i) B,← Nat.mul_assoc,← Nat.add_mul];exact Nat.mul_mod_left _ _
theorem VV {A D s Q U:Nat} (hD:0 < D) (h:Q*(D*2 ^ s)+U=A*2 ^ s) (hU:U < D*2 ^ s):Q=A / D∧U=A % D*2 ^ s∧U / 2 ^ s=A % D:=by
 have hs:0 < 2 ^ s:=Nat.pow_pos (by decide)
 have hE:0 < D*2 ^ s:=Nat.mul_pos hD hs;have h1:A*2 ^ s / (D*2 ^ s)=Q:=by
  rw [← h,Nat.mul_comm Q];rw [Nat.mul_add_div hE,Nat.div_eq_of_lt hU,Nat.add_zero]
 have J:A*2 ^ s % (D*2 ^ s)=U:=by
  rw [← h,Nat.mul_comm Q,Nat.mul_add_mod,Nat.mod_eq_of_lt hU]
 rw [Nat.mul_div_mul_right _ _ hs] at h1;rw [Nat.mul_mod_mul_right] at J;refine ⟨h1.symm,J.symm,?_⟩;rw [← J,Nat.mul_div_cancel _ hs]
theorem To {N:Nat} (h:N < 4294967296):al N 0=N:=by
 unfold al;rw [Nat.pow_zero,Nat.div_one]; exact Nat.mod_eq_of_lt h
theorem ZZ {D:Nat} (h:nl D=1):al D 0=D∧D < 4294967296∧0 < D:=by
 have h1:=cc D;rw [h,Nat.pow_one] at h1;have h0:D≠0:=by intro e; rw [e,r6] at h; omega
 refine ⟨?_,h1,by omega⟩
 unfold al;rw [Nat.pow_zero,Nat.div_one]; exact Nat.mod_eq_of_lt h1
theorem UF {A ca D cd:Nat} {H:aA} (h:A < D):zS gP (A,ca,D,cd) (.tuple ⟨[.slice none 0 0,.slice (some ⟨0,0,none⟩) (nl A) ca]⟩) H:=by
 have e1:gP.val (A,ca,D,cd)=.tuple ⟨[.slice none 0 0,one A ca]⟩:=if_pos h;have e2:gP.new (A,ca,D,cd)=[]:=if_pos h;refine ⟨[],List.nodup_nil,by simp,by rw [e2]; rfl,fun j b q' hb hq ho=>?_,fun j p b hp=>by simp at hp,_,by rw [e1]; rfl,.refl _⟩
 match j with
 | 0=>simp [gP,kB] at hb; subst hb; cases ho
 | 1=>simp [gP,kB] at hb; subst hb; cases ho
 | j+2=>simp [gP,kB] at hb
theorem Mo {A ca D cd q r c1 c2:Nat} {H:aA} {b1 b2:ai} (h:D≤A) (hq:2≤q) (hr:2≤r) (JB:q≠r)
  (h1:H[q]?=some (some b1)) (J:H[r]?=some (some b2)) (o1:b1.own=true) (o2:b2.own=true) (l1:aq (eD (A / D)) b1) (l2:aq (eD (A % D)) b2) :
  zS gP (A,ca,D,cd) (.tuple ⟨[.slice (some ⟨q,0,none⟩) (nl (A / D)) c1,.slice (some ⟨r,0,none⟩) (nl (A % D)) c2]⟩) H:=by
 have hn:¬ A < D:=by omega
 have e1:gP.val (A,ca,D,cd)=.tuple ⟨[lg 2 (A / D),lg 3 (A % D)]⟩:=if_neg hn;have e2:gP.new (A,ca,D,cd)=[eD (A / D),eD (A % D)]:=if_neg hn;refine ⟨[q,r],by simp [JB],fun p hp=>?_,by rw [e2]; rfl,fun j b q' hb hq ho=>?_,fun j p b hp hb=>?_,_,by rw [e1]; rfl,.two (.cap _ _ _ rfl) (.cap _ _ _ rfl)⟩
 ·simp at hp;show 2≤p
  omega
 ·match j with
  | 0=>simp [gP,kB] at hb; subst hb; cases ho
  | 1=>simp [gP,kB] at hb; subst hb; cases ho
  | j+2=>simp [gP,kB] at hb
 ·rw [e2] at hb
  match j with
  | 0=>simp at hp hb; subst hp hb; exact ⟨b1,h1,o1,l1⟩
  | 1=>simp at hp hb; subst hp hb; exact ⟨b2,J,o2,l2⟩
  | j+2=>simp at hb
theorem Mp {x n:Nat} (hx:x < 4294967296) (hn:n≤1):aq (.flat false n 1 (bA x)) (.aR true 1 [[.int .u32 (x:Nat)]]):=by
 refine ⟨(fun h=>by cases h),rfl,hn,fun r hr=>?_,fun r hr v hv=>dQ (l:=bA x r) rfl v hv⟩
 have h0:r=0:=by
  have:r < n:=hr;omega
 subst h0;show [Value.int .u32 (al x 0:Nat)]=[Value.int .u32 (x:Nat)]
 rw [To hx]
open Go
def ba (b:Bool) (N:Nat):Int:=if b then -(N:Int) else N
def l8 (b:Bool) (N:Nat):Value:=.agg ⟨[.bool (b && N != 0),.string (nb N)]⟩
def aH (z:Int):Value:=.agg ⟨[.bool (decide (z < 0)),.string (nb z.natAbs)]⟩
theorem ju (b:Bool) (N:Nat):l8 b N=aH (ba b N):=by
 unfold l8 aH ba;cases b
 ·simp
 ·by_cases h:N=0
  ·subst h; simp
  ·have e:(N != 0)=true:=by simp [h]
   simp [e];omega
theorem VW (b c:Bool) (M N:Nat):ba (b != c) (M*N)=ba b M*ba c N:=by
 cases b <;> cases c <;> simp [ba,Int.neg_mul,Int.mul_neg]
theorem FY (b:Bool) (N:Nat):ba (!b) N=-ba b N:=by cases b <;> simp [ba]
theorem Mq (b:Bool) (M N:Nat):ba b (M+N)=ba b M+ba b N:=by cases b <;> simp [ba] <;> omega
theorem BA {b c:Bool} (h:b≠c) {M N:Nat} (hle:N≤M):ba b (M - N)=ba b M+ba c N:=by
 cases b <;> cases c <;> simp [ba] at h ⊢ <;> omega
theorem rT (b:Bool) (N:Nat):(ba b N).natAbs=N:=by cases b <;> simp [ba]
theorem Fv {b:Bool} {N:Nat}:ba b N=0↔N=0:=by cases b <;> simp [ba]
def eE (x y:Int):Int:=if x < y then -1 else if y < x then 1 else 0
theorem BS (M N:Nat):eE (M:Int) (N:Int)=c4 M N:=by
 unfold eE c4
 split <;> split <;> (try split) <;> (try split) <;> omega
theorem M0 (M N:Nat):eE (-(M:Int)) (-(N:Int))=c4 N M:=by
 unfold eE c4
 split <;> split <;> (try split) <;> (try split) <;> omega
theorem UG (A D:Nat):nl (A*D)≤nl A+nl D:=jU (by
 rw [Nat.pow_add];exact Nat.mul_lt_mul_of_lt_of_le (cc A) (Nat.le_of_lt (cc D)) (eV _))
theorem Mr (A D:Nat):nl (A+D)≤max (nl A) (nl D)+1:=jU (by
 have h1:=Nat.lt_of_lt_of_le (cc A) (Nat.pow_le_pow_right (show 0 < B by decide) (Nat.le_max_left (nl A) (nl D)))
 have J:=Nat.lt_of_lt_of_le (cc D) (Nat.pow_le_pow_right (show 0 < B by decide) (Nat.le_max_right (nl A) (nl D)))
 have e:B ^ (max (nl A) (nl D)+1)=B ^ (max (nl A) (nl D))*4294967296:=rfl;rw [e];generalize B ^ (max (nl A) (nl D))=K at *;omega)
theorem OD {N:Nat} (h:N < 18446744073709551616):N < 4294967296 ^ 2:=Nat.lt_of_lt_of_le h (by decide)
theorem M1 {N:Nat} (h:N < 18446744073709551616):al N 0=N % 4294967296∧al N 1=N / 4294967296:=by
 unfold al;rw [Nat.pow_zero,Nat.div_one,Nat.pow_one];exact ⟨rfl,Nat.mod_eq_of_lt (show N / 4294967296 < 4294967296 by omega)⟩
theorem NP {N x:Nat} (h:N < 36028797018963968) (hx:x < 256):IntKind.i64.wrap ((BitVec.ofInt IntKind.i64.bits (IntKind.i64.wrap ((N:Int)*256)) ||| BitVec.ofInt IntKind.i64.bits (IntKind.i64.wrap (x:Int))).toNat:Int)=((N*256+x:Nat):Int):=by
 rw [ay (x:=(N:Int)*256) (by omega) (by omega),ay (x:=(x:Int)) (by omega) (by omega),ef N x h hx]
 omega
theorem M3 {N:Nat} (h:N < 18446744073709551616):aq (.flat false 2 1 (bA N)) (.aR true 1 [[.int .u32 (IntKind.u32.wrap (N:Int))],[.int .u32 (IntKind.u32.wrap ((N:Int).fdiv (2 ^ min (Int.toNat 32) IntKind.u64.bits)))]]):=by
 obtain ⟨h1,J⟩:=M1 h;refine ⟨(fun h=>by cases h),rfl,Nat.le_refl _,fun r hr=>?_,fun r hr v hv=>dQ (l:=bA N r) rfl v hv⟩
 have hr:r < 2:=hr
 match r,hr with
 | 0,_ =>
  show [Value.int .u32 (al N 0:Nat)]=[Value.int .u32 (IntKind.u32.wrap (N:Int))]
  rw [h1,wC]; rfl
 | 1,_ =>
  show [Value.int .u32 (al N 1:Nat)]=[Value.int .u32 (IntKind.u32.wrap ((N:Int).fdiv (2 ^ min (Int.toNat 32) IntKind.u64.bits)))]
  rw [J,cG,dA (by omega) (by omega)]; rfl
theorem uh {x y:Int} (h:x < y):eE x y=-1:=if_pos h
theorem ui {x y:Int} (h:y < x):eE x y=1:=by
 unfold eE;rw [if_neg (by omega),if_pos h]
theorem Xj {N:Nat} (h:((nl N:Nat):Int) > 0):0 < N:=by
 rcases Nat.eq_zero_or_pos N with h0 | h0
 ·rw [h0,r6] at h; exact absurd h (by decide)
 ·exact h0
theorem Tp {N:Nat} (h:¬ ((nl N:Nat):Int) > 0):N=0:=Lq (by omega)
theorem wO {N:Nat} (h:0 < N):decide (((nl N:Nat):Int) > 0)=true:=decide_eq_true (by have:=y7 (show N≠0 by omega); omega)
theorem wG {N:Nat} (h:N=0):decide (((nl N:Nat):Int) > 0)=false:=by rw [h,r6]; rfl
theorem Dq {i:Nat} (h:i≤6):C ^ i≤281474976710656:=Nat.le_trans (Nat.pow_le_pow_right (by decide) h) (by decide)
theorem oo {i:Nat} (h:i≤7):C ^ i≤72057594037927936:=Nat.le_trans (Nat.pow_le_pow_right (by decide) h) (by decide)
theorem wo:aH 0=.agg ⟨[.bool false,.string ⟨#[]⟩]⟩:=by unfold aH; rw [Int.natAbs_zero,oX]; rfl
theorem A7 {x y q r:Int} (hy:0 < y) (h:r+y*q=x) (h0:0≤r) (h1:r < y):x.fdiv y=q∧x.fmod y=r:=by
 have:=(Int.ediv_emod_unique hy).2 ⟨h,h0,h1⟩;rw [Int.fdiv_eq_ediv_of_nonneg _ (Int.le_of_lt hy),Int.fmod_eq_emod_of_nonneg _ (Int.le_of_lt hy)];exact this
theorem Eo {x y q r:Int} (hy:y < 0) (h:r+y*q=x) (h0:r≤0) (h1:y < r):x.fdiv y=q∧x.fmod y=r:=by
 have J:=A7 (x:=-x) (y:=-y) (q:=q) (r:=-r) (by omega) (by rw [← h,Int.neg_mul]; omega) (by omega) (by omega)
 rw [Int.neg_fdiv_neg] at J;refine ⟨J.1,?_⟩;rw [Int.fmod_def,J.1,← h];omega
theorem wq {b c:Bool} {A D:Nat} (hD:0 < D) (h:A % D=0∨b=c):(ba b A).fdiv (ba c D)=ba (b != c) (A / D)∧(ba b A).fmod (ba c D)=ba b (A % D):=by
 have hm:=Nat.mod_lt A hD;have he:((A % D:Nat):Int)+(D:Int)*((A / D:Nat):Int)=(A:Int):=by
  have:=Nat.mod_add_div A D;have J:=congrArg (fun n:Nat=>(n:Int)) this
  simpa using J
 cases b <;> cases c
 ·exact A7 (by simp [ba]; omega) (by simpa [ba] using he) (by simp [ba]; omega) (by simp only [ba,Bool.false_eq_true,if_false]; omega)
 ·have h:A % D=0:=h.resolve_right (by simp)
  refine Eo (by simp [ba]; omega) ?_ (by simp [ba,h]) (by simp [ba,h]; omega)
  rw [h] at he ⊢;simp only [ba,Bool.false_eq_true,if_false,if_true,bne,Bool.not_false,show ((false == true)=false) from rfl,Int.neg_mul_neg]
  exact he
 ·have h:A % D=0:=h.resolve_right (by simp)
  refine A7 (by simp [ba]; omega) ?_ (by simp [ba,h]) (by simp [ba,h]; omega)
  rw [h] at he ⊢;simp only [ba,Bool.false_eq_true,if_false,if_true,bne,Bool.not_false,show ((true == false)=false) from rfl,Int.mul_neg]
  omega
 ·refine Eo (by simp [ba]; omega) ?_ (by simp only [ba,if_true]; omega) (by simp only [ba,if_true]; omega)
  simp only [ba,if_true,bne,Bool.not_true,show ((true == true)=true) from rfl,Bool.false_eq_true,if_false,Int.neg_mul]
  omega
theorem E3 {b c:Bool} {A D:Nat} (hD:0 < D) (h:A % D≠0) (pH:b≠c):(ba b A).fdiv (ba c D)=ba (b != c) (A / D) - 1∧(ba b A).fmod (ba c D)=ba b (A % D)+ba c D:=by
 have hm:=Nat.mod_lt A hD;have he:((A % D:Nat):Int)+(D:Int)*((A / D:Nat):Int)=(A:Int):=by
  have:=Nat.mod_add_div A D;have J:=congrArg (fun n:Nat=>(n:Int)) this
  simpa using J
 cases b <;> cases c
 ·exact absurd rfl pH
 ·refine Eo (by simp [ba]; omega) ?_ (by simp only [ba,Bool.false_eq_true,if_false,if_true]; omega) (by simp only [ba,Bool.false_eq_true,if_false,if_true]; omega)
  simp only [ba,Bool.false_eq_true,if_false,if_true,bne,Bool.not_false,show ((false == true)=false) from rfl,Int.mul_sub,Int.neg_mul_neg,Int.mul_one]
  omega
 ·refine A7 (by simp [ba]; omega) ?_ (by simp only [ba,Bool.false_eq_true,if_false,if_true]; omega) (by simp only [ba,Bool.false_eq_true,if_false,if_true]; omega)
  simp only [ba,Bool.false_eq_true,if_false,if_true,bne,Bool.not_false,show ((true == false)=false) from rfl,Int.mul_sub,Int.mul_neg,Int.mul_one]
  omega
 ·exact absurd rfl pH
theorem ud {N:Nat} (h:N=0):(!(nb N).toList == (⟨#[]⟩:ByteArray).toList)=false:=by rw [qi,h,oX]; simp
theorem uj {N:Nat} (h:N≠0):(!(nb N).toList == (⟨#[]⟩:ByteArray).toList)=true:=by
 rw [qi];have:nb N≠⟨#[]⟩:=fun e=>h (KC.1 e)
 simp [this]
abbrev IV:=Bool × ByteArray
def IV.v (i:IV):Value:=.agg ⟨[.bool i.1,.string i.2]⟩
def IV.z (i:IV):Int:=ba i.1 (ab i.2)
def IV.ok (i:IV):Prop:=i.2.size≤549755813888
theorem IV.nl {i:IV} (h:i.ok):nl (ab i.2)≤137438953472:=by
 rw [OC];have:=iN i.2;have h:i.2.size≤549755813888:=h;omega
theorem CG (b:Bool) (N:Nat):IV.z (b && N != 0,nb N)=ba b N:=by
 show ba _ (ab (nb N))=_
 rw [gO];cases b
 ·rfl
 ·by_cases h:N=0
  ·subst h; rfl
  ·have e:(N != 0)=true:=by simp [h]
   rw [e]; rfl
theorem Bq {N:Nat} {s:ByteArray} (h:N≤ab s):(nb N).size≤s.size:=by
 rw [gx];exact Nat.le_trans (ja h) (iN s)
theorem Ha:(nb 1).size≤1:=by rw [gx]; exact gR (by decide)
theorem OE (z:Int):IV.z (decide (z < 0),nb z.natAbs)=z:=by
 show ba _ (ab (nb z.natAbs))=z
 rw [gO];unfold ba;by_cases h:z < 0
 ·simp [h]; omega
 ·simp [h]; omega
theorem Gz {i:IV} (h:i.2.size≤7):-72057594037927936 < i.z∧i.z < 72057594037927936:=by
 have h1:=Nat.lt_of_lt_of_le (gD i.2) (oo h);unfold IV.z ba
 split <;> omega
def fm:bG:={ ι:=Int,args:=fun n=>[.int .i64 n],pre:=fun n=>-9223372036854775808≤n∧n < 9223372036854775808,val:=fun n=>aH n }
def wP:bG:={ ι:=IV,args:=fun i=>[i.v],pre:=IV.ok,val:=fun i=>.tuple ⟨[.int .i64 (if i.2.size≤7 then i.z else 0),.bool (decide (i.2.size≤7))]⟩ }
def ig:bG:={ ι:=IV,args:=fun i=>[i.v],pre:=IV.ok,val:=fun i=>aH (-i.z) }
abbrev kK:=IV × IV
def kK.ok (i:kK):Prop:=i.1.ok∧i.2.ok
def jn:bG:={ ι:=kK,args:=fun i=>[i.1.v,i.2.v],pre:=kK.ok,val:=fun i=>aH (i.1.z+i.2.z) }
def mP:bG:={ ι:=kK,args:=fun i=>[i.1.v,i.2.v],pre:=kK.ok,val:=fun i=>aH (i.1.z - i.2.z) }
def fE:bG:={ ι:=kK,args:=fun i=>[i.1.v,i.2.v],pre:=kK.ok,val:=fun i=>aH (i.1.z*i.2.z) }
def l9:bG:={ ι:=kK,args:=fun i=>[i.1.v,i.2.v],pre:=kK.ok,val:=fun i=>.int .i64 (eE i.1.z i.2.z) }
def vi:bG:={ ι:=kK,args:=fun i=>[i.1.v,i.2.v],pre:=kK.ok,val:=fun i=>aH (Int.gcd i.1.z i.2.z:Nat) }
def iT:bG:={ ι:=kK,args:=fun i=>[i.1.v,i.2.v],pre:=kK.ok,val:=fun i=>.tuple ⟨[aH (i.1.z.fdiv i.2.z),aH (if i.2.z=0 then 0 else i.1.z.fmod i.2.z),.int .i64 (if i.2.z=0 then 10 else 0)]⟩ }
theorem yF {s:ByteArray} {i:Nat} (h:i < s.size):ab s / C ^ (s.size - (i+1))=ab s / C ^ (s.size - i)*256+cg s i:=by
 rw [tW h,show s.size - 1 - i=s.size - (i+1) by omega]
 have e:C ^ (s.size - i)=C ^ (s.size - (i+1))*C:=by rw [← Nat.pow_succ]; congr 1; omega
 rw [e,← Nat.div_div_eq_div_mul,Nat.mul_comm];exact (Nat.div_add_mod _ C).symm
theorem CH (s:ByteArray) {i:Nat} (h:i≤s.size):ab s / C ^ (s.size - i) < C ^ i:=by
 refine (Nat.div_lt_iff_lt_mul (ie _)).2 ?_;rw [← Nat.pow_add,show i+(s.size - i)=s.size by omega]
 exact gD s
open Go
def jx:bG:={ ι:=IV,args:=fun i=>[i.v],pre:=IV.ok,val:=fun i=>aH i.z }
def kq:bG:={ ι:=ByteArray,args:=fun s=>[.string s],pre:=fun s=>s.size≤7,val:=fun s=>.int .i64 (ab s:Nat) }
def xc:bG:={ ι:=IV,args:=fun i=>[i.v],pre:=fun i=>i.2.size≤7,val:=fun i=>.int .i64 i.z }
def Iw:bG:={ ι:=Nat,args:=fun n=>[.int .i64 n],pre:=fun n=>n < 9223372036854775808,val:=fun n=>.string (nb n) }
def r9:bG:={ ι:=Nat × Nat,args:=fun i=>[.string (nb i.1),.string (nb i.2)],pre:=fun i=>aU i.1≤1099511627776∧aU i.2≤1099511627776,val:=fun i=>.int .i64 (c4 i.1 i.2) }
theorem drop_zero {u:ByteArray} (h1:u.size≠0) (J:cg u 0=0):ab (u.extract 1 u.size)=ab u∧(u.extract 1 u.size).size=u.size - 1:=by
 have h3:=tW (s:=u) (i:=0) (by omega)
 have h4:=gD u;refine ⟨?_,Ev (by omega) (Nat.le_refl _)⟩
 rw [Ez (by omega) (Nat.le_refl _),Nat.sub_self,Nat.pow_zero,Nat.div_one]
 refine Nat.mod_eq_of_lt ?_;rw [J,Nat.sub_zero] at h3;have h5:ab u / C ^ (u.size - 1) < C:=(Nat.div_lt_iff_lt_mul (ie _)).2 (by
  rw [Nat.mul_comm,← Nat.pow_succ,show (u.size - 1).succ=u.size by omega]; exact h4)
 rw [Nat.mod_eq_of_lt h5] at h3;rcases Nat.lt_or_ge (ab u) (C ^ (u.size - 1)) with h6 | h6
 ·exact h6
 ·have:=Nat.div_pos h6 (ie _);omega
theorem M4 {N x:Nat} (h:N < 36028797018963968) (hx:x < 256):IntKind.i64.wrap ((BitVec.ofInt IntKind.i64.bits (IntKind.i64.wrap ((N:Int)*2 ^ min (Int.toNat 8) IntKind.i64.bits)) ||| BitVec.ofInt IntKind.i64.bits (IntKind.i64.wrap (x:Int))).toNat:Int)=((N*256+x:Nat):Int):=NP h hx
theorem qj (t:Nat):IntKind.u8.wrap (t:Int)=((t % C:Nat):Int):=by rw [lL]; rfl
theorem EA {g:Nat→List Value} {i m X:Nat} (h:∀ r,r < m→g (i+r)=[.int .u8 ((X / C ^ (m - 1 - r) % C:Nat):Int)]):(⟨⟨bytesOf g i m⟩⟩:ByteArray)=be m X:=by
 have e:bytesOf g i m=bytesOf (fun r=>g (i+r)) 0 m:=by
  unfold bytesOf;simp only [Nat.zero_add]
 rw [e];exact wa h
theorem xu {N n:Nat} (h:N < C ^ n) (J:n=0∨C ^ (n - 1)≤N):nb N=be n N:=by
 unfold nb;rw [Oz h J]
theorem UH {b:Bool} {s:ByteArray} (h:0 < s.size) (J:cg s 0≠0):Value.agg ⟨[.bool b,.string s]⟩=aH (IV.z (b,s)):=by
 have h3:=y8 (s:=s) (.inr J);have h4:ab s≠0:=by
  intro e;rw [e,oX] at h3;rw [h3] at h;exact absurd h (by decide)
 have e:=ju b (ab s);unfold l8 at e;rw [← h3] at e;have e1:(ab s != 0)=true:=by simp [h4]
 rw [e1,Bool.and_true] at e;exact e
theorem P2 {n:Nat} (h:n < 9223372036854775808):n / C ^ 8=0:=Nat.div_eq_of_lt (Nat.lt_of_lt_of_le h (by decide))
theorem Ms {A D:Nat} (h:(nb A).size < (nb D).size):A < D:=by
 rw [gx,gx] at h;exact R8 h
theorem UI {A D:Nat} (h:(nb A).size=(nb D).size):Op.bytesLess (nb A).toList (nb D).toList=decide (A < D):=by
 rw [VM h,gO,gO]
theorem UJ {A D:Nat}:((nb A).toList == (nb D).toList)=decide (A=D):=by
 rw [qi];by_cases h:A=D
 ·subst h; simp
 ·have:nb A≠nb D:=fun e=>h (OA e)
  simp [this,h]
theorem FZ (N:Nat):(!(nb N).toList == (⟨#[]⟩:ByteArray).toList)=(N != 0):=by
 by_cases h:N=0
 ·rw [ud h,h]; rfl
 ·rw [uj h]; simp [h]
theorem EB (n k:Nat):n / C ^ k / 256=n / C ^ (k+1):=by rw [Nat.div_div_eq_div_mul,← Nat.pow_succ]
open Go
def bZ (N i:Nat):Nat:=N / C ^ i % C
theorem qk (N i:Nat):bZ N i < C:=Nat.mod_lt _ (by decide)
def kt (Y j d:Nat):Nat:=Y % C ^ j+C ^ j*(d+C*(Y / C ^ (j+1)))
theorem E4 (Y j:Nat):Y=Y % C ^ j+C ^ j*(bZ Y j+C*(Y / C ^ (j+1))):=by
 have h1:=Nat.mod_add_div Y (C ^ j);have J:=Nat.mod_add_div (Y / C ^ j) C;rw [Nat.div_div_eq_div_mul,← Nat.pow_succ] at J;unfold bZ;rw [J,h1]
theorem Lw (Y j d:Nat):kt Y j d+bZ Y j*C ^ j=Y+d*C ^ j:=by
 have h:=E4 Y j;unfold kt;rw [Nat.mul_add] at h ⊢;have e1:C ^ j*bZ Y j=bZ Y j*C ^ j:=Nat.mul_comm _ _;have e2:C ^ j*d=d*C ^ j:=Nat.mul_comm _ _;omega
theorem NQ {Y j d:Nat} (hd:d < C) (r:Nat):bZ (kt Y j d) r=if r=j then d else bZ Y r:=by
 have ha:Y % C ^ j < C ^ j:=Nat.mod_lt _ (ie j);rcases Nat.lt_trichotomy r j with h | h | h
 ·rw [if_neg (by omega)]
  have key:∀ K,bZ (Y % C ^ j+C ^ j*K) r=bZ (Y % C ^ j) r:=by
   intro K;unfold bZ;have e:C ^ j*K=C ^ r*(C*(C ^ (j - r - 1)*K)):=by
    rw [← Nat.mul_assoc,← Nat.mul_assoc,← Nat.pow_succ,← Nat.pow_add,show r+1+(j - r - 1)=j by omega]
   rw [e,Nat.add_mul_div_left _ _ (ie r),Nat.add_mul_mod_self_left]
  have h1:=key (d+C*(Y / C ^ (j+1)));have J:=key (bZ Y j+C*(Y / C ^ (j+1)));rw [← E4 Y j] at J;unfold kt;rw [h1,J]
 ·subst h;rw [if_pos rfl];unfold kt bZ;rw [oP ha,Nat.add_mul_mod_self_left,Nat.mod_eq_of_lt hd]
 ·rw [if_neg (by omega)]
  have key:∀ d',d' < C→bZ (Y % C ^ j+C ^ j*(d'+C*(Y / C ^ (j+1)))) r=Y / C ^ (j+1) / C ^ (r - j - 1) % C:=by
   intro d' dh;unfold bZ;have e:C ^ r=C ^ j*(C*C ^ (r - j - 1)):=by
    rw [← Nat.mul_assoc,← Nat.pow_succ,← Nat.pow_add,show j+1+(r - j - 1)=r by omega]
   rw [e,← Nat.div_div_eq_div_mul,oP ha,← Nat.div_div_eq_div_mul,oP dh]
  have h1:=key d hd;have J:=key (bZ Y j) (qk Y j);rw [← E4 Y j] at J;unfold kt;rw [h1,J]
theorem VX (r:Nat):bZ 0 r=0:=by simp [bZ]
theorem GD {N n:Nat} (h:N < C ^ n) {r:Nat} (hr:n≤r):bZ N r=0:=by
 unfold bZ;have:C ^ n≤C ^ r:=Nat.pow_le_pow_right (by decide) hr
 rw [Nat.div_eq_of_lt (by omega)]; rfl
theorem wu (N i:Nat):N % C ^ (i+1)=N % C ^ i+bZ N i*C ^ i:=by
 unfold bZ;rw [Nat.pow_succ,Nat.mod_mul];rw [Nat.mul_comm (C ^ i)]
theorem Lx {Y i d:Nat} (hY:Y < C ^ i):kt Y i d=Y+d*C ^ i:=by
 have h:=Lw Y i d;rw [GD hY (Nat.le_refl _),Nat.zero_mul,Nat.add_zero] at h;exact h
theorem Mt {Z j d m:Nat} (hZ:Z < C ^ m) (hj:j < m) (hd:d < C):kt Z j d < C ^ m:=by
 have h1:(kt Z j d) / C ^ m=0:=by
  have e:C ^ m=C ^ j*(C*C ^ (m - j - 1)):=by
   rw [← Nat.mul_assoc,← Nat.pow_succ,← Nat.pow_add,show j+1+(m - j - 1)=m by omega]
  have ha:Z % C ^ j < C ^ j:=Nat.mod_lt _ (ie j);unfold kt;rw [e,← Nat.div_div_eq_div_mul,oP ha,← Nat.div_div_eq_div_mul,oP hd,Nat.div_div_eq_div_mul,← Nat.pow_add,show j+1+(m - j - 1)=m by omega]
  exact Nat.div_eq_of_lt hZ
 rcases Nat.lt_or_ge (kt Z j d) (C ^ m) with h | h
 ·exact h
 ·have:=Nat.div_pos h (ie m);omega
theorem SC {Z c x D i k t Y:Nat} (he:Z+c*C ^ (i+k)=Y+x*(D % C ^ k)*C ^ i) (ht:t=c+(x*bZ D k+bZ Z (i+k))) :
  kt Z (i+k) (t % C)+t / C*C ^ (i+(k+1))=Y+x*(D % C ^ (k+1))*C ^ i:=by
 have hs:=Lw Z (i+k) (t % C);rw [wu D k,← Nat.add_assoc,Nat.pow_succ];rw [Nat.pow_add] at he hs ⊢;exact KV he hs ht
theorem Tq {A D Y Z c i n:Nat} (hY:Y=A % C ^ i*D) (hD:D < C ^ n) (hZ:Z < C ^ (i+n)) (he:Z+c*C ^ (i+n)=Y+bZ A i*(D % C ^ n)*C ^ i) :
  kt Z (i+n) c=A % C ^ (i+1)*D:=by
 rw [Lx hZ,he,Nat.mod_eq_of_lt hD,hY,wu,Nat.add_mul,Nat.mul_assoc (bZ A i),Nat.mul_comm D,← Nat.mul_assoc]
open Go
abbrev S2:=ByteArray × ByteArray
def S2.ok (i:S2):Prop:=i.1.size≤549755813896∧i.2.size≤549755813896
def wQ:bG:={ ι:=S2,args:=fun i=>[.string i.1,.string i.2],pre:=S2.ok,val:=fun i=>.string (nb (ab i.1+ab i.2)) }
def sf:bG:={ ι:=S2,args:=fun i=>[.string i.1,.string i.2],pre:=fun i=>S2.ok i∧ab i.2≤ab i.1,val:=fun i=>.string (nb (ab i.1 - ab i.2)) }
def GF:bG:={ ι:=S2,args:=fun i=>[.string i.1,.string i.2],pre:=fun i=>i.1.size≤549755813888∧i.2.size≤549755813888,val:=fun i=>.string (nb (ab i.1*ab i.2)) }
def p7:bG:={ ι:=ByteArray × Nat,args:=fun i=>[.string i.1,.string (nb i.2)],pre:=fun i=>i.1.size≤549755813888∧aU i.2≤549755813888∧i.2≠0,val:=fun i=>.tuple ⟨[.string (nb (ab i.1 / i.2)),.string (nb (ab i.1 % i.2))]⟩ }
theorem tS {s:ByteArray} {j:Nat} (h:j < s.size):cg s (s.size - (j+1))=bZ (ab s) j:=by
 rw [tW (by omega),show s.size - 1 - (s.size - (j+1))=j by omega]
 rfl
theorem BT {s:ByteArray} {j:Nat} (h:s.size≤j):bZ (ab s) j=0:=GD (gD s) h
def nk (g:Nat→List Value) (n j Y:Nat):Prop:=(∀ r,r < n→∃ x:Int,g r=[.int .u8 x])∧∀ r,n - j≤r→r < n→g r=[.int .u8 ((bZ Y (n - 1 - r):Nat):Int)]
theorem Kl (n:Nat):nk (fun _=>[.int .u8 0]) n 0 0:=⟨fun r _=>⟨0,rfl⟩,fun r h1 J=>absurd h1 (by omega)⟩
theorem Kp {g:Nat→List Value} {n j Y d:Nat} (h:nk g n j Y) (hj:j < n) (hY:Y < C ^ j) (hd:d < C) :
  nk (fun r=>if r=n - (j+1) then [.int .u8 (d:Nat)] else g r) n (j+1) (Y+d*C ^ j):=by
 refine ⟨fun r hr=>?_,fun r h1 J=>?_⟩
 ·by_cases e:r=n - (j+1)
  ·exact ⟨_,if_pos e⟩
  ·simp only [if_neg e]; exact h.1 r hr
 ·rw [← Lx hY,NQ hd];by_cases e:r=n - (j+1)
  ·simp only [if_pos e];rw [if_pos (by omega)]
  ·simp only [if_neg e];rw [if_neg (by omega)]
   exact h.2 r (by omega) J
theorem KF {g:Nat→List Value} {n Y:Nat} (h:nk g n n Y):(⟨⟨bytesOf g 0 n⟩⟩:ByteArray)=be n Y:=wa fun r hr=>by
 rw [h.2 r (by omega) hr]
 rfl
theorem Tr {X D Y c i t:Nat} (he:Y+c*C ^ i=X % C ^ i+D % C ^ i) (ht:t=c+bZ X i+bZ D i) :
  Y+t % C*C ^ i+t / C*C ^ (i+1)=X % C ^ (i+1)+D % C ^ (i+1):=by
 rw [wu X i,wu D i,Nat.pow_succ];exact Ls he ht
theorem KX {Y d i:Nat} (hY:Y < C ^ i) (hd:d < C):Y+d*C ^ i < C ^ (i+1):=by
 have h:(d+1)*C ^ i≤C*C ^ i:=Nat.mul_le_mul_right _ hd;rw [Nat.pow_succ,Nat.mul_comm (C ^ i) C];rw [Nat.add_mul] at h;omega
theorem Xk {A D Y c n p q:Nat} (hA:A < C ^ p) (hD:D < C ^ q) (hn:p < n∧q < n) (hY:Y < C ^ n) (he:Y+c*C ^ n=A % C ^ n+D % C ^ n):Y=A+D:=by
 have h1:A < C ^ (n - 1):=Nat.lt_of_lt_of_le hA (Nat.pow_le_pow_right (by decide) (by omega))
 have J:D < C ^ (n - 1):=Nat.lt_of_lt_of_le hD (Nat.pow_le_pow_right (by decide) (by omega))
 have e:C ^ n=C ^ (n - 1)*256:=by rw [← Nat.pow_succ]; congr 1; omega
 have h3:A < C ^ n:=by omega
 have h4:D < C ^ n:=by omega
 rw [Nat.mod_eq_of_lt h3,Nat.mod_eq_of_lt h4] at he;have hc:c=0:=by
  rcases Nat.eq_zero_or_pos c with h | h
  ·exact h
  ·have:1*C ^ n≤c*C ^ n:=Nat.mul_le_mul_right _ h;omega
 subst hc;omega
theorem Cf {n Y:Nat} (h:Y < C ^ n):nb (ab (be n Y))=nb Y:=by rw [Gv,Nat.mod_eq_of_lt h]
structure zc (A D j Y c:Nat):Prop where
 lt:Y < C ^ j
 eq:Y+c*C ^ j=A % C ^ j+D % C ^ j
theorem Sa (A D:Nat):zc A D 0 0 0:=⟨by decide,by simp [Nat.mod_one]⟩
theorem SD {A D j Y c t n:Nat} {g:Nat→List Value} (h:zc A D j Y c) (hg:nk g n j Y) (hj:j < n) (ht:t=c+bZ A j+bZ D j) :
  ∃ Y',zc A D (j+1) Y' (t / C)∧nk (fun r=>if r=n - (j+1) then [.int .u8 (t % C:Nat)] else g r) n (j+1) Y' :=
 have gf:t % C < C:=Nat.mod_lt _ (by decide)
 ⟨Y+t % C*C ^ j,⟨KX h.lt gf,Tr h.eq ht⟩,Kp hg hj h.lt gf⟩
theorem Ts {s t:ByteArray} {Y c n:Nat} {g:Nat→List Value} (h:zc (ab s) (ab t) n Y c) (hg:nk g n n Y) (hn:s.size < n∧t.size < n) :
  ∃ v:ByteArray,(⟨⟨bytesOf g 0 n⟩⟩:ByteArray)=v∧v.size=n∧nb (ab v)=nb (ab s+ab t) :=
 ⟨be n Y,KF hg,wN _ _,by rw [Cf h.lt,Xk (gD s) (gD t) hn h.lt h.eq]⟩
theorem F0 {n:Int} (h:n < 0) (J:-9223372036854775808≤n):IntKind.i64.wrap (0 - n)=if n=-9223372036854775808 then n else -n:=by
 split
 ·rename_i e; subst e; decide
 ·rw [ay (by omega) (by omega)]; omega
theorem Z0:nb 9223372036854775808=⟨#[128,0,0,0,0,0,0,0]⟩:=by
 rw [xu (n:=8) (by decide) (.inr (by decide))]
 rfl
theorem VY:aH (-9223372036854775808)=.agg ⟨[.bool true,.string ⟨#[128,0,0,0,0,0,0,0]⟩]⟩:=by
 rw [← Z0]; rfl
theorem vZ {n:Int} (h:n < 0):aH n=.agg ⟨[.bool true,.string (nb n.natAbs)]⟩:=by
 unfold aH;rw [decide_eq_true h]
theorem tP {n:Int} (h:0≤n):aH n=.agg ⟨[.bool false,.string (nb n.natAbs)]⟩:=by
 unfold aH;rw [decide_eq_false (by omega)]
theorem IV.aU {i:IV} (h:i.ok):Go.Ae.aU i.z.natAbs≤549755813888:=by
 unfold IV.z;rw [rT];exact Nat.le_trans (iN i.2) h
theorem NR {x y:Int} (hx:0≤x) (hy:0≤y):eE x y=c4 x.natAbs y.natAbs:=by
 rw [← BS]; congr 1 <;> omega
theorem NS {x y:Int} (hx:x < 0) (hy:y < 0):eE x y=c4 y.natAbs x.natAbs:=by
 rw [← M0]; congr 1 <;> omega
open Go
structure zd (A D j Y c:Nat):Prop where
 lt:Y < C ^ j
 eq:Y+D % C ^ j=A % C ^ j+c*C ^ j
theorem Sb (A D:Nat):zd A D 0 0 0:=⟨by decide,by simp [Nat.mod_one]⟩
theorem Tt {Y D A P c e d a c':Nat} (h:Y+D=A+c*P) (he:e+c+d=a+256*c') :
  Y+e*P+(D+d*P)=A+a*P+c'*(P*256):=by
 have J:(e+c+d)*P=(a+256*c')*P:=by rw [he]
 simp only [Nat.add_mul] at J;have h3:c'*(P*256)=256*c'*P:=by rw [Nat.mul_comm P,← Nat.mul_assoc,Nat.mul_comm c']
 omega
theorem Bi {A D j Y c e c' n:Nat} {g:Nat→List Value} (h:zd A D j Y c) (hg:nk g n j Y) (hj:j < n) (he:e < C) (ht:e+c+bZ D j=bZ A j+256*c') :
  ∃ Y',zd A D (j+1) Y' c'∧nk (fun r=>if r=n - (j+1) then [.int .u8 (e:Nat)] else g r) n (j+1) Y' :=
 ⟨Y+e*C ^ j,⟨KX h.lt he,by
  rw [wu A j,wu D j,Nat.pow_succ];exact Tt h.eq ht⟩,Kp hg hj h.lt he⟩
theorem Tu {s t:ByteArray} {Y c:Nat} {g:Nat→List Value} (h:zd (ab s) (ab t) s.size Y c) (hle:ab t≤ab s) (hg:nk g s.size s.size Y) :
  ∃ v:ByteArray,(⟨⟨bytesOf g 0 s.size⟩⟩:ByteArray)=v∧v.size=s.size∧nb (ab v)=nb (ab s - ab t):=by
 refine ⟨be s.size Y,KF hg,wN _ _,?_⟩;rw [Cf h.lt];have h1:=h.eq;have J:=h.lt;have h3:=gD s;rw [Nat.mod_eq_of_lt h3,Nat.mod_eq_of_lt (Nat.lt_of_le_of_lt hle h3)] at h1;have hc:c=0:=by
  rcases Nat.eq_zero_or_pos c with h | h
  ·exact h
  ·have:1*C ^ s.size≤c*C ^ s.size:=Nat.mul_le_mul_right _ h;omega
 subst hc
 congr 1
 omega
def qH (g:Nat→List Value) (n Z:Nat):Prop:=∀ r,r < n→g r=[.int .i64 ((bZ Z (n - 1 - r):Nat):Int)]
theorem SE (n:Nat):qH (fun _=>[.int .i64 0]) n 0:=fun r hr=>by rw [VX]; rfl
theorem Mu {g:Nat→List Value} {n Z j d:Nat} (h:qH g n Z) (hj:j < n) (hd:d < C) :
  qH (fun r=>if r=n - 1 - j then [.int .i64 (d:Nat)] else g r) n (kt Z j d):=fun r hr=>by
 rw [NQ hd];by_cases e:r=n - 1 - j
 ·simp only [if_pos e]; rw [if_pos (by omega)]
 ·simp only [if_neg e]; rw [if_neg (by omega)]; exact h r hr
structure ze (A D p m q Z c:Nat):Prop where
 lt:Z < C ^ (p+m)
 eq:Z+c*C ^ (p+q)=A % C ^ p*D+bZ A p*(D % C ^ q)*C ^ p
structure zf (A D p m Z:Nat):Prop where
 lt:Z < C ^ (p+m)
 eq:Z=A % C ^ p*D
theorem Sc (A D m:Nat):zf A D 0 m 0:=⟨ie _,by simp [Nat.mod_one]⟩
theorem Sd {A D p m Z:Nat} (h:zf A D p m Z):ze A D p m 0 Z 0:=⟨h.lt,by simp [Nat.mod_one,h.eq]⟩
theorem SF {A D p m q Z c t n:Nat} {g:Nat→List Value} (h:ze A D p m q Z c) (hg:qH g n Z) (hq:q < m) (hn:p+m < n) (ht:t=c+(bZ A p*bZ D q+bZ Z (p+q))) :
  ∃ Z',ze A D p m (q+1) Z' (t / C)∧qH (fun r=>if r=n - 1 - (p+q) then [.int .i64 (t % C:Nat)] else g r) n Z' :=
 have gf:t % C < C:=Nat.mod_lt _ (by decide)
 ⟨kt Z (p+q) (t % C),⟨Mt h.lt (by omega) gf,SC h.eq ht⟩,Mu hg (by omega) gf⟩
theorem Tv {A D p m Z c n:Nat} {g:Nat→List Value} (h:ze A D p m m Z c) (hD:D < C ^ m) (hg:qH g n Z) (hn:p+m < n) (hc:c < C) :
  (bZ Z (p+m)=0)∧∃ Z',zf A D (p+1) m Z'∧qH (fun r=>if r=n - 1 - (p+m) then [.int .i64 (c:Nat)] else g r) n Z' :=
 ⟨GD h.lt (Nat.le_refl _),kt Z (p+m) c,⟨by
  rw [show p+1+m=p+m+1 by omega]
  exact Mt (Nat.lt_of_lt_of_le h.lt (Nat.pow_le_pow_right (by decide) (Nat.le_succ _))) (by omega) hc,Tq rfl hD h.lt h.eq⟩,Mu hg hn hc⟩
theorem Tw {A D p m Z:Nat} (h:zf A D p m Z) (hA:A < C ^ p):Z=A*D:=by rw [h.eq,Nat.mod_eq_of_lt hA]
def wH (g:Nat→List Value) (n i Z:Nat):Prop:=(∀ r,r < n→∃ x:Int,g r=[.int .u8 x])∧∀ r,r < i→g r=[.int .u8 ((bZ Z (n - 1 - r):Nat):Int)]
theorem RQ (n Z:Nat):wH (fun _=>[.int .u8 0]) n 0 Z:=⟨fun r _=>⟨0,rfl⟩,fun r h=>absurd h (by omega)⟩
theorem RU {g:Nat→List Value} {n i Z:Nat} (h:wH g n i Z) (hi:i < n) :
  wH (fun r=>if r=i then [.int .u8 (bZ Z (n - 1 - i):Nat)] else g r) n (i+1) Z:=by
 refine ⟨fun r hr=>?_,fun r hr=>?_⟩
 ·by_cases e:r=i
  ·exact ⟨_,if_pos e⟩
  ·simp only [if_neg e]; exact h.1 r hr
 ·by_cases e:r=i
  ·subst e; simp
  ·simp only [if_neg e]; exact h.2 r (by omega)
theorem Se {g:Nat→List Value} {n Z:Nat} (h:wH g n n Z):(⟨⟨bytesOf g 0 n⟩⟩:ByteArray)=be n Z:=wa fun r hr=>h.2 r hr
theorem Sf {g:Nat→List Value} {n Z:Nat} (h:wH g n n Z) (hZ:Z < C ^ n):∃ v:ByteArray,(⟨⟨bytesOf g 0 n⟩⟩:ByteArray)=v∧v.size=n∧nb (ab v)=nb Z :=
 ⟨be n Z,Se h,wN _ _,Cf hZ⟩
theorem Tx {c x y z t:Nat} (hc:c < C) (hx:x < C) (hy:y < C) (hz:z < C) (ht:t=c+(x*y+z)):t / C < C∧t < 65536:=by
 have:x*y≤255*255:=Nat.mul_le_mul (Nat.le_of_lt_succ hx) (Nat.le_of_lt_succ hy);have hc:c < 256:=hc;have hz:z < 256:=hz;have h:t < 65536:=by omega
 exact ⟨by show t / 256 < 256; omega,h⟩
theorem Xl {c x y z t:Nat} (hc:c < C) (hx:x < C) (hy:y < C) (hz:z < C) (ht:t=c+(x*y+z)) :
  IntKind.i64.wrap ((c:Int)+IntKind.i64.wrap ((z:Int)+IntKind.i64.wrap (IntKind.i64.wrap (x:Int)*IntKind.i64.wrap (y:Int))))=(t:Int):=by
 have h:x*y≤255*255:=Nat.mul_le_mul (Nat.le_of_lt_succ hx) (Nat.le_of_lt_succ hy);have hc:c < 256:=hc;have hz:z < 256:=hz;have hx:x < 256:=hx;have hy:y < 256:=hy;have e:(x:Int)*(y:Int)=((x*y:Nat):Int):=by rw [Int.natCast_mul]
 rw [ay (x:=(x:Int)) (by omega) (by omega),ay (x:=(y:Int)) (by omega) (by omega),e,ay (x:=((x*y:Nat):Int)) (by omega) (by omega),ay (x:=(z:Int)+_) (by omega) (by omega),ay (by omega) (by omega)]
 omega
theorem Xm {t:Nat} (h:t < 65536):((BitVec.ofInt IntKind.i64.bits (t:Int) &&& BitVec.ofInt IntKind.i64.bits 255).toNat:Int)=((t % C:Nat):Int):=by
 have e1:BitVec.ofInt IntKind.i64.bits (t:Int)=BitVec.ofNat 64 t:=by
  apply BitVec.eq_of_toNat_eq;show ((t:Int) % ((2 ^ 64:Nat):Int)).toNat=t % 2 ^ 64
  omega
 rw [e1];show (((t % 2 ^ 64) &&& 255:Nat):Int)=_
 have:(t % 2 ^ 64) &&& 255=t % 256:=by
  rw [show (255:Nat)=2 ^ 8 - 1 from rfl,Nat.and_two_pow_sub_one_eq_mod]
  omega
 rw [this]
theorem VZ {s t:ByteArray}:ab s*ab t < C ^ (s.size+t.size):=by
 rw [Nat.pow_add];exact Nat.lt_of_le_of_lt (Nat.mul_le_mul_right _ (Nat.le_of_lt (gD s))) (Nat.mul_lt_mul_of_pos_left (gD t) (ie _))
theorem uU {e:Nat} (h:e < 256):IntKind.u8.wrap (e:Int)=(e:Int):=dS (by omega) (by omega)
structure xd (s:ByteArray) (D i Q R:Nat):Prop where
 eq:ab s / C ^ (s.size - i)=Q*D+R
 lt:R < D
 q:Q < C ^ i
structure uk (D R' k d R:Nat):Prop where
 eq:R'=d*D+R
 lt:R < 2 ^ k*D
 d:d+2 ^ k≤256
theorem Sg (s:ByteArray) {D:Nat} (hD:D≠0):xd s D 0 0 0:=⟨by
 rw [Nat.sub_zero,Nat.div_eq_of_lt (gD s),Nat.zero_mul],Nat.pos_of_ne_zero hD,Nat.zero_lt_one⟩
theorem RW {s:ByteArray} {D i Q R:Nat} (h:xd s D i Q R) (hi:i < s.size):uk D (R*256+cg s i) 8 0 (R*256+cg s i) :=
 ⟨by omega,by
  have h1:cg s i < 256:=wm s i;have J:=h.lt;show _ < 256*D
  omega,by decide⟩
theorem SG {D R' k d R:Nat} (h:uk D R' (k+1) d R) (hR:2 ^ k*D≤R):uk D R' k (d+2 ^ k) (R - 2 ^ k*D):=⟨by
 have:=h.eq;rw [Nat.add_mul];omega,by
 have:=h.lt;rw [Nat.pow_succ,Nat.mul_comm (2 ^ k) 2,Nat.mul_assoc] at this;omega,by
 have:=h.d;rw [Nat.pow_succ] at this;omega⟩
theorem Ty {D R' k d R:Nat} (h:uk D R' (k+1) d R) (hR:R < 2 ^ k*D):uk D R' k d R:=⟨h.eq,hR,by
 have:=h.d;rw [Nat.pow_succ] at this;omega⟩
theorem SH {s:ByteArray} {D i Q R d R2:Nat} (h:xd s D i Q R) (hi:i < s.size) (J:uk D (R*256+cg s i) 0 d R2):xd s D (i+1) (Q*256+d) R2:=⟨by
 rw [yF hi,h.eq,Nat.add_mul (Q*256),Nat.add_mul (Q*D)];have h3:=J.eq;have e:Q*256*D=Q*D*256:=by rw [Nat.mul_assoc,Nat.mul_comm 256,Nat.mul_assoc]
 rw [e,Nat.add_assoc,h3,Nat.add_assoc],by have:=J.lt; simpa using this,by
 have:=h.q;have h3:d < 256:=by have:=J.d; omega
 rw [Nat.pow_succ];show _ < C ^ i*256
 omega⟩
theorem Tz {s:ByteArray} {D Q R:Nat} (h:xd s D s.size Q R):Q=ab s / D∧R=ab s % D:=by
 have h1:=h.eq;rw [Nat.sub_self,Nat.pow_zero,Nat.div_one] at h1;have J:=h.lt;refine ⟨?_,?_⟩
 ·rw [h1,Nat.mul_comm,Nat.mul_add_div (by omega),Nat.div_eq_of_lt J,Nat.add_zero]
 ·rw [h1,Nat.mul_comm,Nat.mul_add_mod,Nat.mod_eq_of_lt J]
def BB (g:Nat→List Value) (i D:Nat):Prop:=(∀ r,r < 8→∃ x:ByteArray,g r=[.string x])∧∀ r,r < i→g r=[.string (nb (2 ^ r*D))]
theorem RM (D:Nat):BB (fun r=>if r=0 then [.string (nb D)] else [.string ⟨#[]⟩]) 1 D:=by
 refine ⟨fun r hr=>?_,fun r hr=>?_⟩
 ·by_cases e:r=0
  ·exact ⟨_,if_pos e⟩
  ·exact ⟨_,if_neg e⟩
 ·have e:r=0:=by omega
  subst e;simp
theorem RR {g:Nat→List Value} {i D:Nat} (h:BB g (i+1) D) (hi:i+1 < 8) {v:ByteArray} (hv:v=nb (2 ^ i*D+2 ^ i*D)) :
  BB (fun r=>if r=i+1 then [.string v] else g r) (i+1+1) D:=by
 refine ⟨fun r hr=>?_,fun r hr=>?_⟩
 ·by_cases e:r=i+1
  ·exact ⟨_,if_pos e⟩
  ·simp only [if_neg e]; exact h.1 r hr
 ·by_cases e:r=i+1
  ·subst e;simp only [if_true];rw [hv,Nat.pow_succ,Nat.mul_comm (2 ^ i) 2,Nat.mul_assoc,Nat.two_mul]
  ·simp only [if_neg e]; exact h.2 r (by omega)
theorem Fw {D k:Nat} (hk:k≤8):aU (2 ^ k*D)≤aU D+1:=gR (by
 have h1:=lP D;have J:2 ^ k≤2 ^ 8:=Nat.pow_le_pow_right (by decide) hk
 rw [Nat.pow_succ,Nat.mul_comm (C ^ _)];exact Nat.lt_of_le_of_lt (Nat.mul_le_mul_right _ J) (Nat.mul_lt_mul_of_pos_left h1 (by decide)))
theorem ad9 {k:Nat} (h:k≤7):IntKind.i64.wrap (1*2 ^ min (Int.toNat (IntKind.u64.wrap (k:Int))) IntKind.i64.bits)=((2 ^ k:Nat):Int):=by
 rcases k with _ | _ | _ | _ | _ | _ | _ | _ | k
 all_goals first | rfl | decide | omega
theorem UK (R:Nat) {s:ByteArray} {i:Nat} (h:i < s.size):ab (nb R++s.extract i (i+1))=R*256+cg s i∧(nb R++s.extract i (i+1)).size=aU R+1:=by
 have e:=Ev (s:=s) (l:=i) (h:=i+1) (by omega) (by omega)
 refine ⟨?_,by rw [ByteArray.size_append,gx,e]; omega⟩
 rw [Sy,gO,e,Ez (by omega) (by omega),tW h]
 rw [show i+1 - i=1 by omega,Nat.pow_one,show s.size - (i+1)=s.size - 1 - i by omega]
def zD (g:Nat→List Value) (n i Q:Nat):Prop:=(∀ r,r < n→∃ x:Int,g r=[.int .u8 x])∧∀ r,r < i→g r=[.int .u8 ((bZ Q (i - 1 - r):Nat):Int)]
theorem SJ (n:Nat):zD (fun _=>[.int .u8 0]) n 0 0:=⟨fun r _=>⟨0,rfl⟩,fun r h=>absurd h (by omega)⟩
theorem M5 {Q d:Nat} (hd:d < 256) (r:Nat):bZ (Q*256+d) (r+1)=bZ Q r∧bZ (Q*256+d) 0=d:=by
 unfold bZ;have e:(Q*256+d) / 256=Q:=by omega
 refine ⟨?_,?_⟩
 ·rw [Nat.pow_succ,Nat.mul_comm (C ^ r) C,← Nat.div_div_eq_div_mul];show (Q*256+d) / 256 / _ % _=_
  rw [e]
 ·rw [Nat.pow_zero,Nat.div_one];show _ % 256=_
  omega
theorem TA {g:Nat→List Value} {n i Q d:Nat} (h:zD g n i Q) (hi:i < n) (hd:d < 256) :
  zD (fun r=>if r=i then [.int .u8 (d:Nat)] else g r) n (i+1) (Q*256+d):=by
 refine ⟨fun r hr=>?_,fun r hr=>?_⟩
 ·by_cases e:r=i
  ·exact ⟨_,if_pos e⟩
  ·simp only [if_neg e]; exact h.1 r hr
 ·by_cases e:r=i
  ·subst e; simp only [if_true];rw [show r+1 - 1 - r=0 by omega,(M5 hd 0).2]
  ·simp only [if_neg e];rw [h.2 r (by omega),show i+1 - 1 - r=(i - 1 - r)+1 by omega,(M5 hd _).1]
theorem UL {g:Nat→List Value} {n Q:Nat} (h:zD g n n Q) (hQ:Q < C ^ n):∃ v:ByteArray,(⟨⟨bytesOf g 0 n⟩⟩:ByteArray)=v∧v.size=n∧nb (ab v)=nb Q :=
 ⟨be n Q,wa fun r hr=>h.2 r hr,wN _ _,Cf hQ⟩
open Go
theorem wR {B:Bool} {N:Nat} {z:Int} (h1:B=decide (z < 0)) (J:N=z.natAbs):Value.agg ⟨[.bool B,.string (nb N)]⟩=aH z:=by
 subst h1; subst J; rfl
structure EI (z:Int) (B:Bool) (m:ByteArray):Prop where
 enc:aH z=.agg ⟨[.bool B,.string m]⟩
 sign:B=decide (z < 0)
 nY:m=nb z.natAbs
theorem EI.mk' (z:Int):∃ B m,EI z B m:=⟨_,_,rfl,rfl,rfl⟩
theorem EI.abs {z:Int} {B:Bool} {m:ByteArray} (h:EI z B m):ab m=z.natAbs:=by rw [h.nY,gO]
theorem EI.val {z:Int} {B:Bool} {m:ByteArray} (h:EI z B m):IV.z (B,m)=z:=by
 rw [h.sign,h.nY]; exact OE z
theorem EI.nil {z:Int} {B:Bool} {m:ByteArray} (h:EI z B m):(m.toList == (⟨#[]⟩:ByteArray).toList)=decide (z=0):=by
 have e:=FZ z.natAbs;rw [← h.nY] at e;have e2:(m.toList == (⟨#[]⟩:ByteArray).toList)=!(z.natAbs != 0):=by rw [← e,Bool.not_not]
 rw [e2];by_cases hz:z=0
 ·subst hz; rfl
 ·have:z.natAbs≠0:=by omega
  rw [decide_eq_false hz];simp [this]
theorem EI.nn {z:Int} {B:Bool} {m:ByteArray} (h:EI z B m):(!(m.toList == (⟨#[]⟩:ByteArray).toList))=decide (z≠0):=by
 rw [h.nil]; by_cases hz:z=0 <;> simp [hz]
theorem EI.size {z:Int} {B:Bool} {m:ByteArray} (h:EI z B m):m.size=aU z.natAbs:=by rw [h.nY,gx]
theorem EI.eta {z:Int} {B:Bool} {m:ByteArray} (h:EI z B m):m=nb (ab m):=by rw [h.abs,h.nY]
theorem EI.small {z:Int} {B:Bool} {m:ByteArray} (h:EI z B m) (h7:m.size≤7):-72057594037927936 < z∧z < 72057594037927936:=by
 have:=Gz (i:=(B,m)) h7;rw [h.val] at this;exact this
theorem EI.same {x y:Int} {B D:Bool} {m k:ByteArray} (h:EI x B m) (J:EI y D k) (e:B=D):Value.agg ⟨[.bool B,.string (nb (ab m+ab k))]⟩=aH (x+y):=by
 have h3:=h.sign;have h4:=J.sign;rw [← e] at h4;refine wR ?_ ?_
 ·cases B
  ·have:=of_decide_eq_false h3.symm;have:=of_decide_eq_false h4.symm;exact (decide_eq_false (by omega)).symm
  ·have:=of_decide_eq_true h3.symm;have:=of_decide_eq_true h4.symm;exact (decide_eq_true (by omega)).symm
 ·rw [h.abs,J.abs];cases B
  ·have:=of_decide_eq_false h3.symm;have:=of_decide_eq_false h4.symm;omega
  ·have:=of_decide_eq_true h3.symm;have:=of_decide_eq_true h4.symm;omega
theorem EI.differ {x y:Int} {B D:Bool} {m k:ByteArray} (h:EI x B m) (J:EI y D k) (e:B≠D) (ak:ab k < ab m):Value.agg ⟨[.bool B,.string (nb (ab m - ab k))]⟩=aH (x+y):=by
 have h3:=h.sign;have h4:=J.sign;rw [h.abs,J.abs] at ak ⊢;cases B <;> cases D
 ·exact absurd rfl e
 ·have:=of_decide_eq_false h3.symm;have:=of_decide_eq_true h4.symm;exact wR (decide_eq_false (by omega)).symm (by omega)
 ·have:=of_decide_eq_true h3.symm;have:=of_decide_eq_false h4.symm;exact wR (decide_eq_true (by omega)).symm (by omega)
 ·exact absurd rfl e
theorem EI.equal {x y:Int} {B D:Bool} {m k:ByteArray} (h:EI x B m) (J:EI y D k) (e:B≠D) (ak:ab k=ab m):x+y=0:=by
 have h3:=h.sign;have h4:=J.sign;rw [h.abs,J.abs] at ak;cases B <;> cases D
 ·exact absurd rfl e
 ·have:=of_decide_eq_false h3.symm;have:=of_decide_eq_true h4.symm;omega
 ·have:=of_decide_eq_true h3.symm;have:=of_decide_eq_false h4.symm;omega
 ·exact absurd rfl e
theorem EI.mul {x y:Int} {B D:Bool} {m k:ByteArray} (h:EI x B m) (J:EI y D k) (hx:x≠0) (hy:y≠0):Value.agg ⟨[.bool (B != D),.string (nb (ab m*ab k))]⟩=aH (x*y):=by
 have h3:=h.sign;have h4:=J.sign;rw [h.abs,J.abs];refine wR ?_ (by rw [Int.natAbs_mul])
 have hm:x*y < 0↔¬ ((x < 0)↔(y < 0)):=by
  rcases Int.lt_or_gt_of_ne hx with a | a <;> rcases Int.lt_or_gt_of_ne hy with b | b
  ·have:=Int.mul_pos_of_neg_of_neg a b;constructor
   ·intro; omega
   ·intro h; exact absurd ⟨fun _=>b,fun _=>a⟩ h
  ·have:=Int.mul_neg_of_neg_of_pos a b;constructor
   ·intro _ h; have:=h.1 a; omega
   ·intro; exact this
  ·have:=Int.mul_neg_of_pos_of_neg a b;constructor
   ·intro _ h; have:=h.2 b; omega
   ·intro; exact this
  ·have:=Int.mul_pos a b;constructor
   ·intro; omega
   ·intro h; exact absurd ⟨fun q=>by omega,fun q=>by omega⟩ h
 rw [h3,h4];by_cases a:x < 0 <;> by_cases b:y < 0 <;> simp [a,b,hm]
theorem EI.ba {z:Int} {B:Bool} {m:ByteArray} (h:EI z B m):Go.Ae.ba B (ab m)=z:=h.val
theorem F1 {x y zq zr:Int} {B D:Bool} {m k:ByteArray} (hE:EI x B m) (hF:EI y D k) (hy:y≠0) (h:B=D) (hq:zq=((ab m / ab k:Nat):Int)) (hr:zr=((ab m % ab k:Nat):Int)) :
  zq=Int.fdiv x y∧(if D=true then -zr else zr)=Int.fmod x y:=by
 have hk:0 < ab k:=by rw [hF.abs]; omega
 obtain ⟨h1,J⟩:=wq (b:=B) (c:=D) (A:=ab m) hk (.inr h);rw [hE.ba,hF.ba] at h1 J;rw [h1,J,hq,hr,h];cases D <;> exact ⟨rfl,rfl⟩
theorem Fx {x y zq zr:Int} {B D:Bool} {m k:ByteArray} (hE:EI x B m) (hF:EI y D k) (hy:y≠0) (h:B≠D) (hq:zq=((ab m / ab k:Nat):Int)) (hr:zr=((ab m % ab k:Nat):Int)) (h0:zr=0) :
  -zq=Int.fdiv x y∧(if D=true then -zr else zr)=Int.fmod x y:=by
 have hk:0 < ab k:=by rw [hF.abs]; omega
 have h3:ab m % ab k=0:=by rw [h0] at hr; omega
 obtain ⟨h1,J⟩:=wq (b:=B) (c:=D) (A:=ab m) hk (.inl h3);rw [hE.ba,hF.ba] at h1 J;rw [h1,J,hq,h0,h3];refine ⟨?_,?_⟩
 ·cases B <;> cases D
  ·exact absurd rfl h
  ·rfl
  ·rfl
  ·exact absurd rfl h
 ·cases B <;> cases D <;> rfl
theorem F2 {x y zq zr:Int} {B D:Bool} {m k:ByteArray} (hE:EI x B m) (hF:EI y D k) (hy:y≠0) (h:B≠D) (hq:zq=((ab m / ab k:Nat):Int)) (hr:zr=((ab m % ab k:Nat):Int)) (h0:zr≠0) :
  -zq - 1=Int.fdiv x y∧(if D=true then -(((ab k:Nat):Int) - zr) else ((ab k:Nat):Int) - zr)=Int.fmod x y:=by
 have hk:0 < ab k:=by rw [hF.abs]; omega
 obtain ⟨h1,J⟩:=E3 (b:=B) (c:=D) (A:=ab m) hk (by omega) h
 rw [hE.ba,hF.ba] at h1;rw [hE.ba] at J;rw [hF.ba] at J;rw [h1,J,hq,hr];refine ⟨?_,?_⟩
 ·cases B <;> cases D
  ·exact absurd rfl h
  ·rfl
  ·rfl
  ·exact absurd rfl h
 ·have hv:=hF.ba;cases B <;> cases D
  ·exact absurd rfl h
  ·rw [← hv]; unfold Go.Ae.ba; simp only [if_true]; simp; omega
  ·rw [← hv]; unfold Go.Ae.ba; simp only [if_true]; simp; omega
  ·exact absurd rfl h
theorem EI.je {z:Int} (h:0≤z):∃ m,EI z false m:=⟨_,(wR (decide_eq_false (by omega)).symm rfl).symm,(decide_eq_false (by omega)).symm,rfl⟩
theorem M6 {n:Nat} (h:n < 72057594037927936):IntKind.i64.wrap (n:Int)=n:=ay (by omega) (by omega)
theorem RX {x y:Int} (h:aU x.natAbs+aU y.natAbs < 8):-9223372036854775808≤x*y∧x*y < 9223372036854775808:=by
 have h1:=lP x.natAbs;have J:=lP y.natAbs;have h3:x.natAbs*y.natAbs < C ^ (aU x.natAbs+aU y.natAbs):=by
  rw [Nat.pow_add];exact Nat.lt_of_le_of_lt (Nat.mul_le_mul_right _ (Nat.le_of_lt h1)) (Nat.mul_lt_mul_of_pos_left J (ie _))
 have h4:=oo (i:=aU x.natAbs+aU y.natAbs) (by omega)
 rw [← Int.natAbs_mul] at h3;omega
open Go
def fI (d:Nat):ByteArray:=if d=1 then ⟨#[]⟩ else nb d
def bN (q:Rat):Value:=.agg ⟨[.bool (decide (q.num < 0)),.string (nb q.num.natAbs),.string (fI q.den)]⟩
abbrev RV:=Bool × ByteArray × ByteArray
def RV.v (i:RV):Value:=.agg ⟨[.bool i.1,.string i.2.1,.string i.2.2]⟩
def RV.n (i:RV):Int:=ba i.1 (ab i.2.1)
def RV.d (i:RV):Nat:=if ab i.2.2=0 then 1 else ab i.2.2
def RV.q (i:RV):Rat:=mkRat i.n i.d
def RV.ok (i:RV):Prop:=i.2.1.size≤8589934592∧i.2.2.size≤8589934592
def RV.of (q:Rat):RV:=(decide (q.num < 0),nb q.num.natAbs,fI q.den)
theorem RV.jz (i:RV):i.d≠0:=by
 unfold RV.d
 split <;> omega
theorem UM {d:Nat} (h:d≠0):(if ab (fI d)=0 then 1 else ab (fI d))=d:=by
 unfold fI
 split
 ·rename_i e; rw [e]; rfl
 ·rw [gO,if_neg h]
theorem RV.P3 (q:Rat):(RV.of q).n=q.num:=by
 exact OE q.num
theorem RV.P4 (q:Rat):(RV.of q).d=q.den:=UM q.den_nz
theorem RV.fw (q:Rat):(RV.of q).q=q:=by
 unfold RV.q;rw [RV.P3,RV.P4,Rat.mkRat_self]
theorem Hb (n:Int) {d:Nat} (h:d≠0):n.fdiv ((Int.gcd n d:Nat):Int)=(mkRat n d).num:=by
 rw [Rat.num_mkRat,if_neg h,Int.fdiv_eq_ediv_of_nonneg _ (by omega)]
 rw [Int.gcd_comm]; rfl
theorem Hc (n:Int) {d:Nat} (h:d≠0):((d:Nat):Int).fdiv ((Int.gcd n d:Nat):Int)=(((mkRat n d).den:Nat):Int):=by
 rw [Rat.den_mkRat,if_neg h,Int.fdiv_eq_ediv_of_nonneg _ (by omega),Int.natCast_ediv]
 rw [Int.gcd_comm]; rfl
theorem Z1 (n:Int) {d:Nat} (h:d≠0):(mkRat n d).num.natAbs≤n.natAbs:=by
 rw [Rat.num_mkRat,if_neg h];exact Int.natAbs_ediv_le_natAbs n _
theorem OF (n:Int) {d:Nat} (h:d≠0):(mkRat n d).den≤d:=by
 rw [Rat.den_mkRat,if_neg h];exact Nat.div_le_self _ _
def QB (q:Rat) (k:Nat):Prop:=aU q.num.natAbs≤k∧aU q.den≤k
theorem wS (a b:Nat):aU (a*b)≤aU a+aU b:=gR (by
 rw [Nat.pow_add];exact Nat.lt_of_le_of_lt (Nat.mul_le_mul_right _ (Nat.le_of_lt (lP a))) (Nat.mul_lt_mul_of_pos_left (lP b) (ie _)))
theorem NT {a b k:Nat} (ha:aU a≤k) (hb:aU b≤k):aU (a+b)≤k+1:=gR (by
 have h1:=Nat.lt_of_lt_of_le (lP a) (Nat.pow_le_pow_right (n:=C) (by decide) ha)
 have J:=Nat.lt_of_lt_of_le (lP b) (Nat.pow_le_pow_right (n:=C) (by decide) hb)
 rw [Nat.pow_succ];show _ < C ^ k*256
 omega)
theorem QB.mk {n:Int} {d k:Nat} (hd:d≠0) (h1:aU n.natAbs≤k) (J:aU d≤k):QB (mkRat n d) k :=
 ⟨Nat.le_trans (ja (Z1 n hd)) h1,Nat.le_trans (ja (OF n hd)) J⟩
theorem QB.mono {q:Rat} {k l:Nat} (h:QB q k) (hl:k≤l):QB q l:=⟨Nat.le_trans h.1 hl,Nat.le_trans h.2 hl⟩
theorem QB.add {p q:Rat} {k l:Nat} (hp:QB p k) (hq:QB q l):QB (p+q) (k+l+1):=by
 rw [Rat.add_def'];refine QB.mk (Nat.mul_ne_zero p.den_nz q.den_nz) ?_ ?_
 ·have h1:aU (p.num*q.den).natAbs≤k+l:=by
   rw [Int.natAbs_mul]; exact Nat.le_trans (wS _ _) (Nat.add_le_add hp.1 hq.2)
  have J:aU (q.num*p.den).natAbs≤k+l:=by
   rw [Int.natAbs_mul]; exact Nat.le_trans (wS _ _) (by rw [Nat.add_comm k]; exact Nat.add_le_add hq.1 hp.2)
  exact Nat.le_trans (ja (Int.natAbs_add_le _ _)) (NT h1 J)
 ·exact Nat.le_trans (wS _ _) (Nat.le_succ_of_le (Nat.add_le_add hp.2 hq.2))
theorem QB.neg {p:Rat} {k:Nat} (hp:QB p k):QB (-p) k:=⟨by rw [Rat.neg_num,Int.natAbs_neg]; exact hp.1,hp.2⟩
theorem QB.sub {p q:Rat} {k l:Nat} (hp:QB p k) (hq:QB q l):QB (p - q) (k+l+1):=by
 rw [Rat.sub_eq_add_neg]; exact hp.add hq.neg
theorem QB.mul {p q:Rat} {k l:Nat} (hp:QB p k) (hq:QB q l):QB (p*q) (k+l):=by
 rw [Rat.mul_def'];refine QB.mk (Nat.mul_ne_zero p.den_nz q.den_nz) ?_ (Nat.le_trans (wS _ _) (Nat.add_le_add hp.2 hq.2));rw [Int.natAbs_mul]; exact Nat.le_trans (wS _ _) (Nat.add_le_add hp.1 hq.1)
theorem RV.qb {i:RV} {k:Nat} (h1:i.2.1.size≤k) (J:i.2.2.size≤k) (hk:1≤k):QB i.q k:=by
 refine QB.mk i.jz ?_ ?_
 ·unfold RV.n;rw [rT];exact Nat.le_trans (iN _) h1
 ·unfold RV.d
  split
  ·exact Nat.le_trans (gR (show 1 < C ^ 1 by decide)) hk
  ·exact Nat.le_trans (iN _) J
theorem Mv {d k:Nat} (h:aU d≤k):(fI d).size≤k:=by
 unfold fI
 split
 ·exact Nat.zero_le _
 ·rw [gx]; exact h
theorem RV.sM {q:Rat} (h:QB q 8589934592):(RV.of q).ok:=⟨by show (nb _).size≤_; rw [gx]; exact h.1,Mv h.2⟩
open Go
def xw (n d:IV):Value:=.agg ⟨[.bool n.1,.string n.2,.bool d.1,.string d.2]⟩
def il:bG:={ ι:=IV × Int,args:=fun i=>[i.1.v,.int .i64 i.2],pre:=fun i=>i.1.ok∧-9223372036854775808≤i.2∧i.2 < 9223372036854775808,val:=fun i=>.bool (decide (i.1.z=i.2)) }
def M7:bG:={ ι:=IV,args:=fun i=>[.bool i.1,.string i.2],pre:=fun _=>True,val:=fun i=>i.v }
def RV.den (i:RV):ByteArray:=if ab i.2.2=0 then nb 1 else i.2.2
def mc:bG:={ ι:=RV,args:=fun i=>[i.v],pre:=fun i=>i.2.2.size≤549755813888,val:=fun i=>xw (i.1,i.2.1) (false,i.den) }
def oY:bG:={ ι:=IV × IV,args:=fun i=>[xw i.1 i.2],pre:=fun i=>i.1.ok∧i.2.ok∧0 < i.2.z,val:=fun i=>bN (mkRat i.1.z i.2.z.natAbs) }
def p8:bG:={ ι:=IV × IV,args:=fun i=>[i.1.v,i.2.v],pre:=fun i=>i.1.ok∧i.2.ok∧0 < i.2.z,val:=fun i=>bN (mkRat i.1.z i.2.z.natAbs) }
def RV.gk (i:RV):Prop:=i.2.1.size≤3∧i.2.2.size≤3
instance (i:RV):Decidable i.gk:=inferInstanceAs (Decidable (_∧_))
def bM:bG:={ ι:=RV,args:=fun i=>[i.v],pre:=fun _=>True,val:=fun i=>.tuple ⟨[.int .i64 (if i.gk then i.n else 0),.int .i64 (if i.gk then (i.d:Int) else 0),.bool (decide i.gk)]⟩ }
def sN:bG:={ ι:=Nat,args:=fun n=>[.int .i64 n],pre:=fun n=>n < 72057594037927936,val:=fun n=>.string (nb n) }
def n9:bG:={ ι:=Int × Nat,args:=fun i=>[.int .i64 i.1,.int .i64 i.2],pre:=fun i=>i.1.natAbs < 72057594037927936∧i.2≠0∧i.2 < 72057594037927936,val:=fun i=>bN (mkRat i.1 i.2) }
def nv:bG:={ ι:=RV,args:=fun i=>[i.v],pre:=RV.ok,val:=fun i=>.tuple ⟨[aH i.n,aH i.d]⟩ }
abbrev kL:=RV × RV
def kL.ok (i:kL):Prop:=i.1.ok∧i.2.ok
def aW (p q:Rat):Int:=if p < q then -1 else if q < p then 1 else 0
def jA:bG:={ ι:=kL,args:=fun i=>[i.1.v,i.2.v],pre:=kL.ok,val:=fun i=>bN (i.1.q+i.2.q) }
def eU:bG:={ ι:=kL,args:=fun i=>[i.1.v,i.2.v],pre:=kL.ok,val:=fun i=>bN (i.1.q - i.2.q) }
def hJ:bG:={ ι:=kL,args:=fun i=>[i.1.v,i.2.v],pre:=kL.ok,val:=fun i=>bN (i.1.q*i.2.q) }
def jB:bG:={ ι:=kL,args:=fun i=>[i.1.v,i.2.v],pre:=kL.ok,val:=fun i=>.int .i64 (aW i.1.q i.2.q) }
def qz:bG:={ ι:=RV,args:=fun i=>[i.v],pre:=RV.ok,val:=fun i=>bN i.q }
def lh:bG:={ ι:=Int,args:=fun n=>[.int .i64 n],pre:=fun n=>-9223372036854775808≤n∧n < 9223372036854775808,val:=fun n=>bN (n:Rat) }
theorem RV.Hd {i:RV} (h:i.gk):-16777216 < i.n∧i.n < 16777216:=by
 have h1:=gD i.2.1;have J:C ^ i.2.1.size≤C ^ 3:=Nat.pow_le_pow_right (by decide) h.1
 have h3:ab i.2.1 < 16777216:=Nat.lt_of_lt_of_le h1 J;unfold RV.n;unfold ba
 split <;> omega
theorem RV.He {i:RV} (h:i.gk):0 < i.d∧i.d < 16777216:=by
 have h1:=gD i.2.2;have J:C ^ i.2.2.size≤C ^ 3:=Nat.pow_le_pow_right (by decide) h.2
 have h3:ab i.2.2 < 16777216:=Nat.lt_of_lt_of_le h1 J;unfold RV.d
 split <;> omega
theorem RV.jW (i:RV):IV.z (false,i.den)=((i.d:Nat):Int):=by
 show ((ab i.den:Nat):Int)=_
 unfold RV.den RV.d
 split
 ·rw [gO]
 ·rfl
theorem RV.rU (i:RV):i.den.size≤i.2.2.size+1:=by
 unfold RV.den
 split
 ·exact Nat.le_trans Ha (Nat.le_add_left _ _)
 ·exact Nat.le_succ _
theorem RV.aea (i:RV):i.q=mkRat i.n (IV.z (false,i.den)).natAbs:=by rw [RV.jW]; rfl
theorem KY {a b:Int} (h1:-16777216 < a∧a < 16777216) (J:0 < b∧b < 16777216):-281474976710656 < a*b∧a*b < 281474976710656:=by
 have h3:(a*b).natAbs≤16777215*16777215:=by
  rw [Int.natAbs_mul];exact Nat.mul_le_mul (by omega) (by omega)
 omega
theorem HM (a b:RV):a.q+b.q=mkRat (a.n*b.d+b.n*a.d) (a.d*b.d):=Rat.mkRat_add_mkRat _ _ a.jz b.jz
theorem HN (a b:RV):a.q*b.q=mkRat (a.n*b.n) (a.d*b.d):=Rat.mkRat_mul_mkRat _ _ _ _
theorem ue (i:RV):i.q=(i.n:Rat) / ((i.d:Nat):Rat):=Rat.mkRat_eq_div _ _
theorem natCast_pos {d:Nat} (h:d≠0):(0:Rat) < ((d:Nat):Rat):=by
 have:((0:Nat):Rat) < ((d:Nat):Rat):=Rat.natCast_lt_natCast.2 (by omega)
 exact this
theorem aeb (a b:RV):a.q < b.q↔a.n*b.d < b.n*a.d:=by
 have ha:=natCast_pos a.jz;have hb:=natCast_pos b.jz;have e:a.q < b.q↔(a.n:Rat)*((b.d:Nat):Rat) < (b.n:Rat)*((a.d:Nat):Rat):=by
  rw [ue,ue,Rat.div_lt_iff ha];rw [show (b.n:Rat) / ((b.d:Nat):Rat)*((a.d:Nat):Rat)=((b.n:Rat)*((a.d:Nat):Rat)) / ((b.d:Nat):Rat) by
   rw [Rat.div_def,Rat.div_def]; grind]
  rw [Rat.lt_div_iff hb]
 rw [e,← Rat.intCast_natCast,← Rat.intCast_natCast,← Rat.intCast_mul,← Rat.intCast_mul,Rat.intCast_lt_intCast]
theorem C3 (a b:RV):aW a.q b.q=eE (a.n*b.d) (b.n*a.d):=by
 unfold aW eE;simp only [aeb]
theorem acB (i:RV):-i.q=RV.q (!i.1,i.2):=by
 show -mkRat i.n i.d=mkRat (ba (!i.1) (ab i.2.1)) i.d
 rw [FY,Rat.neg_mkRat]
 rfl
theorem fw (n:Int):((n:Int):Rat)=mkRat n 1:=by
 have h:=Rat.mkRat_self ((n:Int):Rat);rw [Rat.num_intCast,Rat.den_intCast] at h;exact h.symm
theorem P5 {n e:Nat} (k:Int) (hk:k=((8*e:Nat):Int)) (he:e≤7):Int.fdiv (n:Int) (2 ^ min (Int.toNat k) IntKind.i64.bits)=((n / C ^ e:Nat):Int):=by
 subst hk;have e1:min (Int.toNat ((8*e:Nat):Int)) IntKind.i64.bits=8*e:=by
  show min (8*e) 64=8*e
  omega
 rw [e1];have e2:(2:Int) ^ (8*e)=((C ^ e:Nat):Int):=by
  rw [show C=2 ^ 8 from rfl,← Nat.pow_mul,Int.natCast_pow]; rfl
 rw [e2,Int.fdiv_eq_ediv_of_nonneg _ (Int.natCast_nonneg _),Int.natCast_ediv]
theorem acC {n:Nat} (h:n < 72057594037927936):n / C ^ 7=0:=Nat.div_eq_of_lt h
theorem Xn {P d m:Nat} (h:P < C ^ m) (hd:d < 256):P*256+d < C ^ (m+1):=by
 rw [Nat.pow_succ];show _ < C ^ m*256
 omega
theorem Xo {P d m:Nat} (h:C ^ (m - 1)≤P) (hm:1≤m):C ^ (m+1 - 1)≤P*256+d:=by
 rw [show m+1 - 1=m - 1+1 by omega,Nat.pow_succ]
 show C ^ (m - 1)*256≤_
 omega
theorem Mw {P Q D m:Nat} {g:Nat→List Value} (h:P=Q*256+D) (hD:D < 256) (hg:∀ r,r < m→g r=[.int .u8 ((Q / C ^ (m - 1 - r) % C:Nat):Int)]) (r:Nat) (hr:r < m+1) :
  gQ g m (fun j=>[[Value.int .u8 ((P % C:Nat):Int)]].getD j []) r=[.int .u8 ((P / C ^ (m+1 - 1 - r) % C:Nat):Int)]:=by
 by_cases h1:r < m
 ·rw [iO h1,hg r h1,show m+1 - 1 - r=(m - 1 - r)+1 by omega,Nat.pow_succ,Nat.mul_comm (C ^ _) C,← Nat.div_div_eq_div_mul,show P / C=Q by rw [h]; show (Q*256+D) / 256=Q; omega]
 ·obtain rfl:r=m:=by omega
  rw [fO (Nat.le_refl _),Nat.sub_self,show r+1 - 1 - r=0 by omega,Nat.pow_zero,Nat.div_one]
  rfl
theorem GG {n:Int} {d g:Nat} (hn:n≠0) (hd:d≠0) (hg:g=Int.gcd n d):bN (mkRat n d)=.agg ⟨[.bool (decide (n < 0)),.string (nb (n.natAbs / g)),.string (fI (d / g))]⟩:=by
 have nZ:0 < g:=by
  rw [hg]; exact Int.gcd_pos_of_ne_zero_left _ hn
 have e1:(mkRat n d).num=n / (g:Int):=by rw [← Hb n hd,← hg,Int.fdiv_eq_ediv_of_nonneg _ (by omega)]
 have e2:(mkRat n d).den=d / g:=by
  have:=Hc n hd;rw [← hg,Int.fdiv_eq_ediv_of_nonneg _ (by omega),← Int.natCast_ediv] at this
  exact (Int.ofNat_inj.1 this).symm
 have DU:(g:Int) ∣ n:=by rw [hg]; exact Int.gcd_dvd_left ..
 obtain ⟨q,hq⟩:=DU;have e3:n / (g:Int)=q:=by rw [hq]; exact Int.mul_ediv_cancel_left _ (by omega)
 have e4:n.natAbs / g=q.natAbs:=by
  rw [hq,Int.natAbs_mul,Int.natAbs_natCast]; exact Nat.mul_div_cancel_left _ nZ
 have e5:n < 0↔q < 0:=by
  rw [hq];constructor
  ·intro h;rcases Int.lt_or_le q 0 with J | J
   ·exact J
   ·have:=Int.mul_nonneg (show (0:Int)≤g by omega) J
    omega
  ·intro h; exact Int.mul_neg_of_pos_of_neg (by omega) h
 unfold bN;rw [e1,e2,e3,e4];rw [show decide (n < 0)=decide (q < 0) from by simp only [e5]]
theorem yz (d:Nat):bN (mkRat 0 d)=.agg ⟨[.bool false,.string ⟨#[]⟩,.string ⟨#[]⟩]⟩:=by
 rw [Rat.zero_mkRat];show Value.agg ⟨[.bool false,.string (nb 0),.string (fI 1)]⟩=_
 rw [oX]
 rfl
theorem V0 {a b:Int}:Int.gcd b (a.tmod b)=Int.gcd a b:=by
 show Nat.gcd b.natAbs (a.tmod b).natAbs=Nat.gcd a.natAbs b.natAbs
 rw [Int.natAbs_tmod,Nat.gcd_comm,← Nat.gcd_rec,Nat.gcd_comm]
theorem NU (a:Int) (h:-72057594037927936 < a∧a < 72057594037927936):(if IntKind.i64.wrap (0 - a) > a then IntKind.i64.wrap (0 - a) else a)=((a.natAbs:Nat):Int):=by
 rw [ay (x:=0 - a) (by omega) (by omega)]
 split <;> omega
theorem BC {a g:Nat} (h:a < 72057594037927936):IntKind.i64.wrap (Int.tdiv (a:Int) (g:Int))=((a / g:Nat):Int):=by
 rw [FX]; exact M6 (Nat.lt_of_le_of_lt (Nat.div_le_self _ _) h)
theorem A8 {n:Int} {d g:Nat} (hd:d≠0) (hg:g=Int.gcd n d):(d / g=1↔d=g)∧1≤d / g∧g≠0:=by
 have DU:g ∣ d:=by
  have:((g:Nat):Int) ∣ (d:Int):=by rw [hg]; exact Int.gcd_dvd_right ..
  exact Int.natCast_dvd_natCast.1 this
 have nZ:0 < g:=Nat.pos_of_dvd_of_pos DU (Nat.pos_of_ne_zero hd);obtain ⟨q,rfl⟩:=DU;rw [Nat.mul_div_cancel_left _ nZ];have hq:q≠0:=by intro e; subst e; exact hd (Nat.mul_zero _)
 refine ⟨⟨fun h=>by rw [h,Nat.mul_one],fun h=>?_⟩,by omega,by omega⟩
 have:g*q=g*1:=by rw [Nat.mul_one]; exact h
 exact Nat.eq_of_mul_eq_mul_left nZ this
theorem r0:-9223372036854775808≤(0:Int)∧(0:Int) < 9223372036854775808:=by decide
theorem r1:-9223372036854775808≤(1:Int)∧(1:Int) < 9223372036854775808:=by decide
theorem um {n:Int} (h:-9223372036854775808≤n∧n < 9223372036854775808):aU n.natAbs≤8:=gR (Nat.lt_of_le_of_lt (show n.natAbs≤9223372036854775808 by omega) (by decide))
theorem KZ (n e:Nat):n / C ^ e=n / C ^ (e+1)*256+n / C ^ e % 256:=by
 have:=EB n e;omega
abbrev I4:=(Int × Nat) × (Int × Nat)
def I4.args (i:I4):List Value:=[.int .i64 i.1.1,.int .i64 i.1.2,.int .i64 i.2.1,.int .i64 i.2.2]
def jX (i:Int × Nat):Prop:=(-16777216 < i.1∧i.1 < 16777216)∧0 < i.2∧i.2 < 16777216
def I4.ok (i:I4):Prop:=jX i.1∧jX i.2
def C4:bG:={ ι:=I4,args:=I4.args,pre:=I4.ok,val:=fun i=>bN (mkRat (i.1.1*i.2.2+i.2.1*i.1.2) (i.1.2*i.2.2)) }
def C5:bG:={ ι:=I4,args:=I4.args,pre:=I4.ok,val:=fun i=>bN (mkRat (i.1.1*i.2.1) (i.1.2*i.2.2)) }
def zE:bG:={ ι:=I4,args:=I4.args,pre:=I4.ok,val:=fun i=>.int .i64 (eE (i.1.1*i.2.2) (i.2.1*i.1.2)) }
abbrev FV:=(IV × IV) × (IV × IV)
def FV.args (i:FV):List Value:=[xw i.1.1 i.1.2,xw i.2.1 i.2.2]
def mD (i:IV × IV):Prop:=(i.1.2.size≤17179869184∧i.2.2.size≤17179869184)∧0 < i.2.z
def FV.ok (i:FV):Prop:=mD i.1∧mD i.2
def xx:bG:={ ι:=FV,args:=FV.args,pre:=FV.ok,val:=fun i=>bN (mkRat (i.1.1.z*i.2.2.z+i.2.1.z*i.1.2.z) (i.1.2.z*i.2.2.z).natAbs) }
def xy:bG:={ ι:=FV,args:=FV.args,pre:=FV.ok,val:=fun i=>bN (mkRat (i.1.1.z*i.2.1.z) (i.1.2.z*i.2.2.z).natAbs) }
def xz:bG:={ ι:=FV,args:=FV.args,pre:=FV.ok,val:=fun i=>.int .i64 (eE (i.1.1.z*i.2.2.z) (i.2.1.z*i.1.2.z)) }
theorem I4.bounds {i:I4} (h:i.ok):(-281474976710656 < i.1.1*i.2.2∧i.1.1*i.2.2 < 281474976710656)∧(-281474976710656 < i.2.1*i.1.2∧i.2.1*i.1.2 < 281474976710656)∧(-281474976710656 < i.1.1*i.2.1∧i.1.1*i.2.1 < 281474976710656)∧0 < i.1.2*i.2.2∧i.1.2*i.2.2 < 281474976710656:=by
 obtain ⟨⟨h1,J⟩,h3,h4⟩:=h;refine ⟨KY h1 ⟨by omega,by omega⟩,KY h3 ⟨by omega,by omega⟩,?_,Nat.mul_pos J.1 h4.1,?_⟩
 ·have:(i.1.1*i.2.1).natAbs≤16777215*16777215:=by
   rw [Int.natAbs_mul];exact Nat.mul_le_mul (by omega) (by omega)
  omega
 ·have:i.1.2*i.2.2≤16777215*16777215:=Nat.mul_le_mul (by omega) (by omega)
  omega
theorem EI.gL {x y:Int} {B:Bool} {m:ByteArray} {k l:Nat} (h:EI (x*y) B m) (hx:aU x.natAbs≤k) (hy:aU y.natAbs≤l):m.size≤k+l:=by
 rw [h.size,Int.natAbs_mul];exact Nat.le_trans (wS _ _) (Nat.add_le_add hx hy)
theorem EI.F3 {x y:Int} {B:Bool} {m:ByteArray} {k:Nat} (h:EI (x+y) B m) (hx:aU x.natAbs≤k) (hy:aU y.natAbs≤k):m.size≤k+1:=by
 rw [h.size];exact Nat.le_trans (ja (Int.natAbs_add_le _ _)) (NT hx hy)
theorem dU {b:Bool} {s:ByteArray} {k:Nat} (h:s.size≤k):aU (IV.z (b,s)).natAbs≤k:=by
 unfold IV.z;rw [rT];exact Nat.le_trans (iN s) h
theorem RV.jX {i:RV} (h:i.gk):Go.Ae.jX (i.n,i.d):=⟨i.Hd h,i.He h⟩
theorem RV.mD {i:RV} (h:i.ok):Go.Ae.mD ((i.1,i.2.1),(false,i.den)):=⟨⟨by have:=h.1; show i.2.1.size≤_; omega,by have:=i.rU; have:=h.2; show i.den.size≤_; omega⟩,by
 show 0 < IV.z (false,i.den)
 rw [RV.jW];have:=i.jz;omega⟩
theorem Z2 (a b:RV):C4.val ((a.n,a.d),(b.n,b.d))=bN (a.q+b.q):=by rw [HM]; rfl
theorem Z3 (a b:RV):C5.val ((a.n,a.d),(b.n,b.d))=bN (a.q*b.q):=by rw [HN]; rfl
theorem Z4 (a b:RV):zE.val ((a.n,a.d),(b.n,b.d))=.int .i64 (aW a.q b.q):=by rw [C3]; rfl
theorem K0 (a b:RV):(IV.z (false,a.den)*IV.z (false,b.den)).natAbs=a.d*b.d:=by
 rw [RV.jW,RV.jW,← Int.natCast_mul,Int.natAbs_natCast]
theorem Z5 (a b:RV):xx.val (((a.1,a.2.1),(false,a.den)),((b.1,b.2.1),(false,b.den)))=bN (a.q+b.q):=by
 show bN (mkRat (IV.z (a.1,a.2.1)*IV.z (false,b.den)+IV.z (b.1,b.2.1)*IV.z (false,a.den)) (IV.z (false,a.den)*IV.z (false,b.den)).natAbs)=_
 rw [K0,RV.jW,RV.jW,HM]
 rfl
theorem Z6 (a b:RV):xy.val (((a.1,a.2.1),(false,a.den)),((b.1,b.2.1),(false,b.den)))=bN (a.q*b.q):=by
 show bN (mkRat (IV.z (a.1,a.2.1)*IV.z (b.1,b.2.1)) (IV.z (false,a.den)*IV.z (false,b.den)).natAbs)=_
 rw [K0,HN]
 rfl
theorem Z7 (a b:RV):xz.val (((a.1,a.2.1),(false,a.den)),((b.1,b.2.1),(false,b.den)))=.int .i64 (aW a.q b.q):=by
 show Value.int .i64 (eE (IV.z (a.1,a.2.1)*IV.z (false,b.den)) (IV.z (b.1,b.2.1)*IV.z (false,a.den)))=_
 rw [RV.jW,RV.jW,C3]
 rfl
open Go
def dT:bG:={ ι:=RV,args:=fun i=>[i.v],pre:=RV.ok,val:=fun i=>.int .i64 (aW i.q 0) }
def nm:bG:={ ι:=RV,args:=fun i=>[i.v],pre:=RV.ok,val:=fun i=>.int .i64 (if i=RV.of i.q then 0 else 1) }
def me (n d:Int):Value:=.tuple ⟨[bN (Rat.divInt n d),.int .i64 (if d=0 then 10 else 0)]⟩
def uV:bG:={ ι:=kK,args:=fun i=>[i.1.v,i.2.v],pre:=kK.ok,val:=fun i=>me i.1.z i.2.z }
def GH:bG:={ ι:=Int × Int,args:=fun i=>[.int .i64 i.1,.int .i64 i.2],pre:=fun i=>(-9223372036854775808≤i.1∧i.1 < 9223372036854775808)∧-9223372036854775808≤i.2∧i.2 < 9223372036854775808,val:=fun i=>me i.1 i.2 }
theorem Z8 (i:RV):aW i.q 0=eE i.n 0:=by
 have h:=C3 i (RV.of 0);rw [RV.fw,RV.P3,RV.P4] at h;rw [h];show eE (i.n*1) (0*_)=_
 rw [Int.mul_one,Int.zero_mul]
theorem EL (i j:RV):fi [.bool i.1,.string i.2.1,.string i.2.2] [.bool j.1,.string j.2.1,.string j.2.2]=decide (i=j):=by
 obtain ⟨a,b,c⟩:=i;obtain ⟨a',b',c'⟩:=j;simp only [fi,Bool.and_true,qi];by_cases h1:a=a' <;> by_cases J:b=b' <;> by_cases h3:c=c' <;> simp [h1,J,h3]
theorem Ly {n d:Int} (h:0 < d):Rat.divInt n d=mkRat n d.natAbs:=by
 obtain ⟨k,rfl⟩:∃ k:Nat,d=k:=⟨d.natAbs,by omega⟩
 rw [Rat.divInt_ofNat,Int.natAbs_natCast]
theorem SL {n d:Int} (h:d < 0):Rat.divInt n d=mkRat (-n) (-d).natAbs:=by
 rw [← Rat.neg_divInt_neg,Ly (by omega)]
theorem OG (b:Bool) (s t:ByteArray):RV.q (!b,s,t)=-RV.q (b,s,t):=(acB (b,s,t)).symm
theorem acD:bN 0=.agg ⟨[.bool false,.string ⟨#[]⟩,.string ⟨#[]⟩]⟩:=by
 have:=yz 1
 rwa [Rat.zero_mkRat] at this
def P6 (q:Rat):Rat:=if q < 0 then -q else q
def Pe:bG:={ ι:=kL,args:=fun i=>[i.1.v,i.2.v],pre:=kL.ok,val:=fun i=>RV.v (if i.1.q < i.2.q then i.2 else i.1) }
def RV.zF (i:RV):Prop:=60 < i.2.1.size∨60 < i.2.2.size
instance (i:RV):Decidable i.zF:=inferInstanceAs (Decidable (_∨_))
theorem rV {p q:Rat}:aW p q > 0↔q < p:=by
 unfold aW
 split
 ·rename_i h;constructor
  ·intro J; exact absurd J (by decide)
  ·intro J; grind
 ·split
  ·exact ⟨fun _=>by assumption,fun _=>by decide⟩
  ·exact ⟨fun h=>absurd h (by decide),fun h=>by contradiction⟩
theorem F4 {p q:Rat}:aW p q < 0↔p < q:=by
 unfold aW
 split
 ·exact ⟨fun _=>by assumption,fun _=>by decide⟩
 ·split
  ·exact ⟨fun h=>absurd h (by decide),fun h=>by contradiction⟩
  ·exact ⟨fun h=>absurd h (by decide),fun h=>by contradiction⟩
theorem aec:nb 1=⟨#[1]⟩:=by
 rw [xu (n:=1) (by decide) (.inr (by decide))]
 rfl
open Go
abbrev PV:=RV × RV
def PV.cells (p:PV):List Value:=[.bool p.1.1,.string p.1.2.1,.string p.1.2.2,.bool p.2.1,.string p.2.2.1,.string p.2.2.2]
def PV.v (p:PV):Value:=.agg ⟨[.bool p.1.1,.string p.1.2.1,.string p.1.2.2,.bool p.2.1,.string p.2.2.1,.string p.2.2.2]⟩
def iU (x y:Rat):Value:=PV.v (RV.of x,RV.of y)
def RV.sz (k:Nat) (i:RV):Prop:=i.2.1.size≤k∧i.2.2.size≤k
def PV.sz (k:Nat) (p:PV):Prop:=p.1.sz k∧p.2.sz k
theorem RV.bo {k:Nat} {i:RV} (h:i.sz k) (hk:k≤8589934592):i.ok:=⟨Nat.le_trans h.1 hk,Nat.le_trans h.2 hk⟩
theorem RV.aP {k l:Nat} {i:RV} (h:i.sz k) (hk:k≤l):i.sz l:=⟨Nat.le_trans h.1 hk,Nat.le_trans h.2 hk⟩
theorem PV.aP {k l:Nat} {i:PV} (h:i.sz k) (hk:k≤l):i.sz l:=⟨RV.aP h.1 hk,RV.aP h.2 hk⟩
theorem RV.jl {q:Rat} {k:Nat} (h:QB q k):(RV.of q).sz k:=⟨by show (nb _).size≤_; rw [gx]; exact h.1,Mv h.2⟩
theorem RV.fM {i:RV} {k:Nat} (h:i.sz k) (hk:1≤k):QB i.q k:=RV.qb h.1 h.2 hk
def mf (a b:Rat):Rat:=if a < b then b else a
def mg (a b:Rat):Rat:=if b < a then b else a
def aed (a b:PV):Int:=if aW a.1.q b.1.q≠0 then aW a.1.q b.1.q else aW a.2.q b.2.q
abbrev kf:=PV × PV
def vM:Int→Prop:=fun n=>-9223372036854775808≤n∧n < 9223372036854775808
def qT:bG:={ ι:=Int × Int,args:=fun i=>[.int .i64 i.1,.int .i64 i.2],pre:=fun i=>vM i.1∧vM i.2,val:=fun i=>iU (i.1:Rat) (i.2:Rat) }
def JC (i:kf):Prop:=i.1.sz 8589934592∧i.2.sz 8589934592
def xA:bG:={ ι:=kf,args:=fun i=>[i.1.v,i.2.v],pre:=JC,val:=fun i=>iU (i.1.1.q+i.2.1.q) (i.1.2.q+i.2.2.q) }
def ia:bG:={ ι:=kf,args:=fun i=>[i.1.v,i.2.v],pre:=JC,val:=fun i=>iU (i.1.1.q - i.2.1.q) (i.1.2.q - i.2.2.q) }
def sh:bG:={ ι:=PV × RV,args:=fun i=>[i.1.v,i.2.v],pre:=fun i=>i.1.sz 8589934592∧i.2.sz 8589934592,val:=fun i=>iU (i.1.1.q*i.2.q) (i.1.2.q*i.2.q) }
def aee (i:kf):Prop:=i.1.sz 1073741824∧i.2.sz 1073741824
def Z9 (p q:PV):Rat:=p.1.q*q.2.q - p.2.q*q.1.q
def n8:bG:={ ι:=kf,args:=fun i=>[i.1.v,i.2.v],pre:=aee,val:=fun i=>bN (Z9 i.1 i.2) }
def PV.canon (p:PV):Prop:=p.1=RV.of p.1.q∧p.2=RV.of p.2.q
instance (p:PV):Decidable p.canon:=inferInstanceAs (Decidable (_∧_))
def kR:bG:={ ι:=PV,args:=fun i=>[i.v],pre:=fun i=>i.sz 8589934592,val:=fun i=>.int .i64 (if i.canon then 0 else 1) }
def kv:bG:={ ι:=kf,args:=fun i=>[i.1.v,i.2.v],pre:=JC,val:=fun i=>.int .i64 (aed i.1 i.2) }
def aef (i:kf):Prop:=i.1.sz 268435456∧i.2.sz 268435456
def nL:bG:={ ι:=kf × RV,args:=fun i=>[i.1.1.v,i.1.2.v,i.2.v],pre:=fun i=>aef i.1∧i.2.sz 268435456,val:=fun i=>iU (i.1.1.1.q+(i.1.2.1.q - i.1.1.1.q)*i.2.q) (i.1.1.2.q+(i.1.2.2.q - i.1.1.2.q)*i.2.q) }
def Hf:bG:={ ι:=PV,args:=fun i=>[i.v],pre:=fun i=>i.sz 8589934592,val:=fun i=>iU i.1.q i.2.q }
def PV.zF (p:PV):Prop:=p.1.zF∨p.2.zF
instance (p:PV):Decidable p.zF:=inferInstanceAs (Decidable (_∨_))
theorem TB (p q:PV):fi p.cells q.cells=decide (p=q):=by
 obtain ⟨⟨a,b,c⟩,⟨d,e,f⟩⟩:=p;obtain ⟨⟨a',b',c'⟩,⟨d',e',f'⟩⟩:=q;simp only [PV.cells,fi,Bool.and_true,qi];by_cases h1:a=a' <;> by_cases J:b=b' <;> by_cases h3:c=c' <;> by_cases h4:d=d' <;> by_cases h5:e=e' <;> by_cases h6:f=f' <;> simp [h1,J,h3,h4,h5,h6]
def RV.cells (i:RV):List Value:=[.bool i.1,.string i.2.1,.string i.2.2]
def bF (l:List PV):Nat→List Value:=fun r=>(l.getD r ((false,⟨#[]⟩,⟨#[]⟩),(false,⟨#[]⟩,⟨#[]⟩))).cells
theorem F5 {o:Bool} {n k:Nat} {g:Nat→List Value} {rows:List (List Value)} (h1:rows.length=n) (J:∀ r,r < n→rows.getD r []=g r) (h3:∀ r,r < n→mL (g r)=true):aq (.flat false n k g) (.aR o k rows) :=
 ⟨(fun h=>by cases h),rfl,by show n≤rows.length; omega,fun r hr=>by
  show g r=rows.getD r []
  exact (J r hr).symm,fun r hr v hv=>dQ (h3 r hr) v hv⟩
theorem Lz (l:List PV) (r:Nat):mL (bF l r)=true:=rfl
open Go
theorem rR {l:List PV} {i:Nat} (h:i < l.length):∃ p,l[i]?=some p∧p∈l∧bF l i=p.cells:=by
 refine ⟨l[i],List.getElem?_eq_getElem h,List.getElem_mem h,?_⟩;unfold bF;rw [List.getD_eq_getElem?_getD,List.getElem?_eq_getElem h]
 rfl
theorem V1 {p q:Rat}:aW p q=1↔q < p:=by
 unfold aW
 split
 ·rename_i h;exact ⟨fun J=>absurd J (by decide),fun J=>by grind⟩
 ·split
  ·exact ⟨fun _=>by assumption,fun _=>rfl⟩
  ·exact ⟨fun h=>absurd h (by decide),fun h=>by contradiction⟩
theorem UN {p q:Rat}:aW p q=-1↔p < q:=by
 unfold aW
 split
 ·exact ⟨fun _=>by assumption,fun _=>rfl⟩
 ·split
  ·exact ⟨fun h=>absurd h (by decide),fun h=>by contradiction⟩
  ·exact ⟨fun h=>absurd h (by decide),fun h=>by contradiction⟩
theorem QB.max {p q:Rat} {k:Nat} (hp:QB p k) (hq:QB q k):QB (mf p q) k:=by
 unfold mf; split <;> assumption
theorem QB.min {p q:Rat} {k:Nat} (hp:QB p k) (hq:QB q k):QB (mg p q) k:=by
 unfold mg; split <;> assumption
theorem QB.abs {p:Rat} {k:Nat} (hp:QB p k):QB (P6 p) k:=by
 unfold P6; split
 ·exact hp.neg
 ·exact hp
abbrev XV:=PV × PV
def XV.v (b:XV):Value:=.agg ⟨[.bool b.1.1.1,.string b.1.1.2.1,.string b.1.1.2.2,.bool b.1.2.1,.string b.1.2.2.1,.string b.1.2.2.2,.bool b.2.1.1,.string b.2.1.2.1,.string b.2.1.2.2,.bool b.2.2.1,.string b.2.2.2.1,.string b.2.2.2.2]⟩
def XV.cells (b:XV):List Value:=[.bool b.1.1.1,.string b.1.1.2.1,.string b.1.1.2.2,.bool b.1.2.1,.string b.1.2.2.1,.string b.1.2.2.2,.bool b.2.1.1,.string b.2.1.2.1,.string b.2.1.2.2,.bool b.2.2.1,.string b.2.2.2.1,.string b.2.2.2.2]
def Pf (b:XV) (p:PV):Prop:=b.1.1.q≤p.1.q∧p.1.q≤b.2.1.q∧b.1.2.q≤p.2.q∧p.2.q≤b.2.2.q
instance (b:XV) (p:PV):Decidable (Pf b p):=inferInstanceAs (Decidable (_∧_∧_∧_))
def V2:bG:={ ι:=XV × PV,args:=fun i=>[i.1.v,i.2.v],pre:=fun i=>(i.1.1.sz 268435456∧i.1.2.sz 268435456)∧i.2.sz 268435456,val:=fun i=>.bool (decide (Pf i.1 i.2)) }
theorem GI {p q:Rat}:aW p q≤0↔p≤q:=by
 have:=rV (p:=p) (q:=q);constructor
 ·intro h; have:¬ q < p:=fun e=>by have:=this.2 e; omega
  grind
 ·intro h; have:¬ aW p q > 0:=fun e=>by have:=this.1 e; grind
  omega
theorem si {p q:Rat}:aW p q ≥ 0↔q≤p:=by
 have:=F4 (p:=p) (q:=q);constructor
 ·intro h; have:¬ p < q:=fun e=>by have:=this.2 e; omega
  grind
 ·intro h; have:¬ aW p q < 0:=fun e=>by have:=this.1 e; grind
  omega
open Go
def lT:bG:={ ι:=kL,args:=fun i=>[i.1.v,i.2.v],pre:=kL.ok,val:=fun i=>.tuple ⟨[bN (i.1.q / i.2.q),.int .i64 (if i.2.q=0 then 10 else 0)]⟩ }
theorem LA (b:RV):b.q=0↔b.n=0:=by
 have hb:=natCast_pos b.jz;rw [ue,Rat.div_def];constructor
 ·intro h;rcases Rat.mul_eq_zero.1 h with h | h
  ·exact_mod_cast h
  ·exfalso;have J:((b.d:Nat):Rat)*((b.d:Nat):Rat)⁻¹=1:=Rat.mul_inv_cancel _ (by grind)
   rw [h] at J;grind
 ·intro h;rw [h];simp
theorem acE (a b:RV):me (a.n*b.d) (a.d*b.n)=.tuple ⟨[bN (a.q / b.q),.int .i64 (if b.q=0 then 10 else 0)]⟩:=by
 have ha:=natCast_pos a.jz;have hb:=natCast_pos b.jz;have e1:Rat.divInt (a.n*b.d) (a.d*b.n)=a.q / b.q:=by
  rw [Rat.divInt_eq_div,ue a,ue b,Rat.intCast_mul,Rat.intCast_mul,Rat.intCast_natCast,Rat.intCast_natCast];by_cases h:(b.n:Rat)=0
  ·rw [h]; simp [Rat.div_def]
  ·grind
 have e2:((a.d:Int)*b.n=0)↔b.q=0:=by
  rw [LA];constructor
  ·intro h;rcases Int.mul_eq_zero.1 h with h | h
   ·have:=a.jz; omega
   ·exact h
  ·intro h; rw [h]; simp
 unfold me;rw [e1];simp only [e2]
open Go
theorem Q1 (i:RV):fi [.bool i.1,.string i.2.1,.string i.2.2] [.bool i.1,.string i.2.1,.string i.2.2]=true:=by
 rw [EL i i]; exact decide_eq_true rfl
instance (n:Int):Decidable (vM n):=inferInstanceAs (Decidable (_∧_))
def OH:bG:={ ι:=Unit,args:=fun _=>[],pre:=fun _=>True,val:=fun _=>.bool true }
def dc:RV:=(false,⟨#[]⟩,⟨#[]⟩)
theorem rW (k:Nat):dc.sz k:=⟨Nat.zero_le _,Nat.zero_le _⟩
theorem zg {n:Int} (h:n.natAbs < 256):QB (n:Rat) 1:=by
 have e1:(n:Rat).num=n:=Rat.num_intCast n;have e2:(n:Rat).den=1:=Rat.den_intCast n;refine ⟨?_,?_⟩
 ·rw [e1]; exact gR (show n.natAbs < C ^ 1 from h)
 ·rw [e2]; exact gR (show 1 < C ^ 1 by decide)
open Go
abbrev PL:=Option (List PV × Nat)
def PL.val:PL→Value
 | none=>.slice none 0 0
 | some i=>.slice (some ⟨0,0,none⟩) i.1.length i.2
def PL.ae:PL→List ai
 | none=>[]
 | some i=>[.flat false i.1.length 6 (bF i.1)]
def PL.list:PL→List PV
 | none=>[]
 | some i=>i.1
def PL.ok (i:PL):Prop:=i.list.length≤9223372036854775807
def nG:XV:=((dc,dc),(dc,dc))
theorem NV:dc.q=0:=by
 show mkRat (ba false (ab ⟨#[]⟩)) _=0
 exact Rat.zero_mkRat _
open Go
theorem eqX (b:XV):fi [.bool b.1.1.1,.string b.1.1.2.1,.string b.1.1.2.2,.bool b.1.2.1,.string b.1.2.2.1,.string b.1.2.2.2,.bool b.2.1.1,.string b.2.1.2.1,.string b.2.1.2.2,.bool b.2.2.1,.string b.2.2.2.1,.string b.2.2.2.2] [.bool b.1.1.1,.string b.1.1.2.1,.string b.1.1.2.2,.bool b.1.2.1,.string b.1.2.2.1,.string b.1.2.2.2,.bool b.2.1.1,.string b.2.1.2.1,.string b.2.1.2.2,.bool b.2.2.1,.string b.2.2.2.1,.string b.2.2.2.2]=true:=by
 simp [fi]
open Go
structure Bounds (l:List PV) (X:XV):Prop where
 inb:∀ p∈l,V2.val (X,p)=.bool true
 sz:X.1.sz 268435456∧X.2.sz 268435456
 c1:kR.val X.1=.int .i64 0
 c2:kR.val X.2=.int .i64 0
 l1:∃ p∈l,p.1.q=X.1.1.q
 l2:∃ p∈l,p.1.q=X.2.1.q
 l3:∃ p∈l,p.2.q=X.1.2.q
 l4:∃ p∈l,p.2.q=X.2.2.q
theorem yA {p q:Rat}:aW p q=0↔p=q:=by
 have h1:=GI (p:=p) (q:=q);have J:=si (p:=p) (q:=q);constructor
 ·intro h; have:=h1.1 (by omega); have:=J.1 (by omega); grind
 ·intro h; have:=h1.2 (by grind); have:=J.2 (by grind); omega
theorem aq.dz {o o':Bool} {n e:Nat} {g f:Nat→List Value} (h:o=true→o'=true) (hf:∀ r,r < n→f r=g r) (hs:∀ r,r < n→mL (g r)=true):aq (.flat o n e g) (.flat o' n e f) :=
 ⟨fun ho=>⟨h ho,rfl⟩,rfl,Nat.le_refl _,fun r hr=>(hf r hr).symm,fun r hr v hv=>dQ (hs r hr) v hv⟩
open Go
abbrev Q2:=Rat × Rat
def PV.p (a:PV):Q2:=(a.1.q,a.2.q)
def cA (p:Q2):PV:=(RV.of p.1,RV.of p.2)
theorem gF (p:Q2):(cA p).p=p:=by
 show ((RV.of p.1).q,(RV.of p.2).q)=p
 rw [RV.fw,RV.fw]
def sZ (b a:Q2):Q2:=(b.1 - a.1,b.2 - a.2)
def vj (u v:Q2):Rat:=u.1*v.1+u.2*v.2
def oa (u v:Q2):Rat:=u.1*v.2 - u.2*v.1
theorem NW (b a:PV):ia.val (b,a)=(cA (sZ b.p a.p)).v:=rfl
theorem UO (u v:PV):n8.val (u,v)=(RV.of (oa u.p v.p)).v:=rfl
theorem V3 (r:RV):dT.val r=.int .i64 (aW r.q 0):=rfl
def Q2.sz (k:Nat) (p:Q2):Prop:=QB p.1 k∧QB p.2 k
theorem PV.cM {a:PV} {k:Nat} (h:a.sz k) (hk:1≤k):Q2.sz k a.p:=⟨RV.fM h.1 hk,RV.fM h.2 hk⟩
theorem sC {p:Q2} {k l:Nat} (h:Q2.sz k p) (hl:k≤l):(cA p).sz l:=⟨RV.aP (RV.jl h.1) hl,RV.aP (RV.jl h.2) hl⟩
theorem nw {a b:Q2} {k l:Nat} (ha:Q2.sz k a) (hb:Q2.sz l b):Q2.sz (k+l+1) (sZ a b):=⟨ha.1.sub hb.1,ha.2.sub hb.2⟩
theorem Hg {a b:Q2} {k l:Nat} (ha:Q2.sz k a) (hb:Q2.sz l b):QB (vj a b) (k+l+(k+l)+1):=(ha.1.mul hb.1).add (ha.2.mul hb.2)
theorem wI {a b:Q2} {k l:Nat} (ha:Q2.sz k a) (hb:Q2.sz l b):QB (oa a b) (k+l+(k+l)+1):=(ha.1.mul hb.2).sub (ha.2.mul hb.1)
theorem aaa {q:Rat} {k:Nat} (h:QB q k) (hk:k≤8589934592):(RV.of q).ok:=RV.sM (h.mono hk)
def aB (a b c:Q2):Rat:=oa (sZ b a) (sZ c a)
abbrev x0:=PV × PV × PV
def Dr (i:x0):Prop:=i.1.sz 1048576∧i.2.1.sz 1048576∧i.2.2.sz 1048576
def np:bG:={ ι:=x0,args:=fun i=>[i.1.v,i.2.1.v,i.2.2.v],pre:=Dr,val:=fun i=>.int .i64 (aW (aB i.1.p i.2.1.p i.2.2.p) 0) }
def Ds (a b p:Q2):Prop:=aB a b p=0∧vj (sZ a p) (sZ b p)≤0
instance (a b p:Q2):Decidable (Ds a b p):=inferInstanceAs (Decidable (_∧_))
def lU (v:Q2):Int:=if v.1=0∧v.2=0 then 0 else if 0 < v.2∨v.2=0∧0 < v.1 then 1 else 2
def s3 (u v:Q2):Int:=if lU u < lU v then -1 else if lU v < lU u then 1 else -aW (oa u v) 0
abbrev TV:=PV × PV × PV
def TV.v (t:TV):Value:=.agg ⟨t.1.cells++(t.2.1.cells++t.2.2.cells)⟩
def xB (u p:Q2):Q2:=(vj u p,oa u p)
def aeg (u v w:Q2):Prop:=lU u≠0∧lU v≠0∧lU w≠0∧s3 (xB u w) (xB u u)≠0∧(s3 (xB u v) (xB u u)=0∨s3 (xB u w) (xB u v) < 0)
instance (u v w:Q2):Decidable (aeg u v w):=inferInstanceAs (Decidable (_∧_))
open Go
def dV (a b:Q2):Int:=if aW a.1 b.1≠0 then aW a.1 b.1 else aW a.2 b.2
theorem NX {p q:Rat} (h:p < q):aW p q=-1:=UN.2 h
theorem NY {p q:Rat} (h:q < p):aW p q=1:=V1.2 h
theorem GJ {p q:Rat} (h:p=q):aW p q=0:=yA.2 h
theorem Q5 (q:Rat):q < 0∨q=0∨0 < q:=by
 by_cases h:q < 0
 ·exact .inl h
 ·by_cases J:0 < q
  ·exact .inr (.inr J)
  ·exact .inr (.inl (by grind))
theorem Br (q:Rat):(q < 0∧aW q 0=-1)∨(q=0∧aW q 0=0)∨(0 < q∧aW q 0=1):=by
 rcases Q5 q with h | h | h
 ·exact .inl ⟨h,NX h⟩
 ·exact .inr (.inl ⟨h,GJ h⟩)
 ·exact .inr (.inr ⟨h,NY h⟩)
theorem F6 (p q:Rat):aW p q=aW (p - q) 0:=by
 rcases Br (p - q) with ⟨h1,J⟩ | ⟨h1,J⟩ | ⟨h1,J⟩ <;> rw [J]
 ·exact NX (by grind)
 ·exact GJ (by grind)
 ·exact NY (by grind)
theorem UP {a b:Q2}:dV a b=0↔a.1=b.1∧a.2=b.2:=by
 unfold dV;by_cases h:aW a.1 b.1=0
 ·rw [if_neg (by simp [h]),yA]
  exact ⟨fun J=>⟨yA.1 h,J⟩,fun J=>J.2⟩
 ·rw [if_pos h];exact ⟨fun J=>absurd J h,fun J=>yA.2 J.1⟩
theorem ng (p q:Rat):aW p q=-1∨aW p q=0∨aW p q=1:=by
 unfold aW; split
 ·exact .inl rfl
 ·split
  ·exact .inr (.inr rfl)
  ·exact .inr (.inl rfl)
theorem LB (a b:Q2):dV a b=-1∨dV a b=0∨dV a b=1:=by
 unfold dV; split <;> exact ng _ _
open Go
open Go
def H1 (u:Q2):Prop:=0 < u.2∨u.2=0∧0 < u.1
def H2 (u:Q2):Prop:=u.2 < 0∨u.2=0∧u.1 < 0
open Go
theorem lV {x:Q2} {k:Nat} (h:Q2.sz k x):∃ u:PV,(cA x).v=u.v∧u.p=x∧u.sz k∧Q2.sz k u.p :=
 ⟨cA x,rfl,gF x,sC h (Nat.le_refl _),by rw [gF]; exact h⟩
theorem di {q:Rat} {k:Nat} (h:QB q k):∃ r:RV,(RV.of q).v=r.v∧r.q=q∧r.sz k∧QB r.q k :=
 ⟨RV.of q,rfl,RV.fw q,RV.jl h,by rw [RV.fw]; exact h⟩
theorem RV.acF {a b:RV} (h:a.v=b.v):a.1=b.1∧a.2.1=b.2.1∧a.2.2=b.2.2:=by
 have h:Value.agg ⟨[.bool a.1,.string a.2.1,.string a.2.2]⟩=Value.agg ⟨[.bool b.1,.string b.2.1,.string b.2.2]⟩:=h;simp only [Value.agg.injEq,Array.mk.injEq,List.cons.injEq,Value.bool.injEq,Value.string.injEq] at h;exact ⟨h.1,h.2.1,h.2.2.1⟩
theorem RV.iF {a b:RV} (h:a.v=b.v):a=b:=by
 obtain ⟨h1,J,h3⟩:=RV.acF h;exact Prod.ext h1 (Prod.ext J h3)
theorem PV.iF {a b:PV} (h:a.v=b.v):a=b:=by
 have h:Value.agg ⟨[.bool a.1.1,.string a.1.2.1,.string a.1.2.2,.bool a.2.1,.string a.2.2.1,.string a.2.2.2]⟩=Value.agg ⟨[.bool b.1.1,.string b.1.2.1,.string b.1.2.2,.bool b.2.1,.string b.2.2.1,.string b.2.2.2]⟩:=h;simp only [Value.agg.injEq,Array.mk.injEq,List.cons.injEq,Value.bool.injEq,Value.string.injEq] at h;obtain ⟨h1,J,h3,h4,h5,h6,_⟩:=h;exact Prod.ext (Prod.ext h1 (Prod.ext J h3)) (Prod.ext h4 (Prod.ext h5 h6))
theorem cZ (n:Int):∃ m:Int,Value.int .i64 n=Value.int .i64 m∧m=n:=⟨n,rfl,rfl⟩
theorem xe {x:Q2} {k:Nat} (h:Q2.sz k x):∃ u:PV,u=cA x∧(cA x).v=u.v∧u.p=x∧u.sz k∧Q2.sz k u.p :=
 ⟨cA x,rfl,rfl,gF x,sC h (Nat.le_refl _),by rw [gF]; exact h⟩
theorem Hh {q:Rat} {k:Nat} (h:QB q k):∃ r:RV,r=RV.of q∧(RV.of q).v=r.v∧r.q=q∧r.sz k∧QB r.q k :=
 ⟨RV.of q,rfl,rfl,RV.fw q,RV.jl h,by rw [RV.fw]; exact h⟩
theorem vk (a b:Int) (ha:a.natAbs < 256) (hb:b.natAbs < 256):Q2.sz 1 ((a:Rat),(b:Rat)) :=
 ⟨zg ha,zg hb⟩
theorem xM (p q:PV):fi [.bool p.1.1,.string p.1.2.1,.string p.1.2.2,.bool p.2.1,.string p.2.2.1,.string p.2.2.2] [.bool q.1.1,.string q.1.2.1,.string q.1.2.2,.bool q.2.1,.string q.2.2.1,.string q.2.2.2]=decide (p=q):=TB p q
theorem QB.of_int {n:Int} {k:Nat} (h:aU n.natAbs≤k) (hk:1≤k):QB (n:Rat) k:=⟨by rw [Rat.num_intCast]; exact h,by rw [Rat.den_intCast]; exact Nat.le_trans (gR (show 1 < C ^ 1 by decide)) hk⟩
theorem QB.inv {q:Rat} {k:Nat} (h:QB q k) (hk:1≤k):QB q⁻¹ k:=by
 by_cases hq:q=0
 ·subst hq;have:(0:Rat)⁻¹=0:=by simp
  rw [this]; exact h
 ·have e:q⁻¹=Rat.divInt q.den q.num:=Rat.inv_def q;rw [e];have hn:q.num≠0:=fun e=>hq (Rat.num_eq_zero.1 e)
  rcases Int.lt_or_gt_of_ne hn with h1 | h1
  ·have e2:Rat.divInt q.den q.num=mkRat (-(q.den:Int)) q.num.natAbs:=by
    obtain ⟨m,hm⟩:∃ m:Nat,q.num=-(m:Int):=⟨q.num.natAbs,by omega⟩
    rw [hm];rw [Rat.divInt_neg'];simp
   rw [e2];exact QB.mk (by omega) (by rw [Int.natAbs_neg,Int.natAbs_natCast]; exact h.2) h.1
  ·have e2:Rat.divInt q.den q.num=mkRat (q.den:Int) q.num.natAbs:=by
    obtain ⟨m,hm⟩:∃ m:Nat,q.num=(m:Int):=⟨q.num.natAbs,by omega⟩
    rw [hm];simp
   rw [e2];exact QB.mk (by omega) (by rw [Int.natAbs_natCast]; exact h.2) h.1
theorem QB.div {p q:Rat} {k l:Nat} (hp:QB p k) (hq:QB q l) (hl:1≤l):QB (p / q) (k+l):=by
 rw [Rat.div_def]; exact hp.mul (hq.inv hl)
theorem mkP {x y:RV} {k l:Nat} (hx:x.sz k) (hy:y.sz l):PV.sz (max k l) (x,y):=⟨RV.aP hx (Nat.le_max_left _ _),RV.aP hy (Nat.le_max_right _ _)⟩
theorem mkQ {x y:RV} {k l:Nat} (hx:QB x.q k) (hy:QB y.q l):Q2.sz (max k l) (PV.p (x,y)):=⟨hx.mono (Nat.le_max_left _ _),hy.mono (Nat.le_max_right _ _)⟩
def atR (a b:Q2) (t:Rat):Q2:=(a.1+(b.1 - a.1)*t,a.2+(b.2 - a.2)*t)
theorem qI {a b:Q2} {t:Rat} {k l m:Nat} (ha:Q2.sz k a) (hb:Q2.sz l b) (ht:QB t m):Q2.sz (k+(l+k+1+m)+1) (atR a b t) :=
 ⟨ha.1.add ((hb.1.sub ha.1).mul ht),ha.2.add ((hb.2.sub ha.2).mul ht)⟩
open Go
abbrev R3:=RV × RV × RV
def R3.v (i:R3):Value:=.agg ⟨[.bool i.1.1,.string i.1.2.1,.string i.1.2.2,.bool i.2.1.1,.string i.2.1.2.1,.string i.2.1.2.2,.bool i.2.2.1,.string i.2.2.2.1,.string i.2.2.2.2]⟩
def R3.get (i:R3):Nat→RV | 0=>i.1 | 1=>i.2.1 | _=>i.2.2
def R3.sz (k:Nat) (i:R3):Prop:=i.1.sz k∧i.2.1.sz k∧i.2.2.sz k
def R3.rows (i:R3):Nat→List Value:=fun r=>(i.get r).cells
def R3.cells (i:R3):List Value:=[.bool i.1.1,.string i.1.2.1,.string i.1.2.2,.bool i.2.1.1,.string i.2.1.2.1,.string i.2.1.2.2,.bool i.2.2.1,.string i.2.2.2.1,.string i.2.2.2.2]
theorem R3.aJ (i:R3):aq (.flat false 1 9 (fun _=>i.cells)) (.aR true 9 [i.cells]) :=
 F5 rfl (fun r hr=>by
  have:r=0:=by omega
  subst this; rfl) (fun r hr=>rfl)
def TV.w (t:TV):Value:=.agg ⟨[.bool t.1.1.1,.string t.1.1.2.1,.string t.1.1.2.2,.bool t.1.2.1,.string t.1.2.2.1,.string t.1.2.2.2,.bool t.2.1.1.1,.string t.2.1.1.2.1,.string t.2.1.1.2.2,.bool t.2.1.2.1,.string t.2.1.2.2.1,.string t.2.1.2.2.2,.bool t.2.2.1.1,.string t.2.2.1.2.1,.string t.2.2.1.2.2,.bool t.2.2.2.1,.string t.2.2.2.2.1,.string t.2.2.2.2.2]⟩
def sg (q:Rat):Int:=aW q 0
def inR (a b c p:Q2):Prop:=sg (aB a b c)≠0∧sg (aB a b p)=sg (aB a b c)∧sg (aB b c p)=sg (aB a b c)∧sg (aB c a p)=sg (aB a b c)
instance (a b c p:Q2):Decidable (inR a b c p):=inferInstanceAs (Decidable (_∧_))
def onR (a b c p:Q2):Prop:=Ds a b p∨Ds b c p∨Ds c a p
instance (a b c p:Q2):Decidable (onR a b c p):=inferInstanceAs (Decidable (_∨_))
def aab (u v w:Q2):Prop:=(lU u≠0∧lU v≠0∧lU w≠0)∧if s3 u v < 0 then s3 u w < 0∧s3 w v < 0 else s3 u w < 0∨s3 w v < 0
instance (u v w:Q2):Decidable (aab u v w):=inferInstanceAs (Decidable (_∧_))
def hs (u:Q2):Int:=if lU u=2 then -1 else 1
structure Tri (u v w:Q2) (a b c x y z:Int):Prop where
 hu:lU u=a
 hv:lU v=b
 hw:lU w=c
 ra:a=1∨a=2
 rb:b=1∨b=2
 rc:c=1∨c=2
 uv:sg (oa u v)=x
 uw:sg (oa u w)=y
 wv:sg (oa w v)=z
open Go
instance (k:Nat) (p:PV):Decidable (p.sz k):=inferInstanceAs (Decidable ((_∧_)∧(_∧_)))
def uF (k:Nat) (l:List PV):Bool:=l.any fun p=>decide (¬ p.sz k)
theorem EM {k:Nat} {l:List PV} {p:PV} (h:p∈l) (hg:¬ p.sz k):uF k l=true:=List.any_eq_true.2 ⟨p,h,decide_eq_true hg⟩
theorem Sh {k:Nat} {l:List PV} (h:uF k l=false):∀ p∈l,p.sz k:=fun p hp=>by
 refine Classical.byContradiction fun hg=>?_
 rw [EM hp hg] at h; cases h
def uo (k:Nat) (l:List PV) (i:Nat):Prop:=∀ p∈l.take i,p.sz k
theorem Kq (k:Nat) (l:List PV):uo k l 0:=fun p hp=>by simp at hp
theorem KG {k:Nat} {l:List PV} {i:Nat} {p:PV} (h:uo k l i) (hp:l[i]?=some p) (hg:p.sz k):uo k l (i+1):=fun q hq=>by
 rw [List.take_add_one,hp] at hq;simp only [Option.toList_some,List.mem_append,List.mem_singleton] at hq;rcases hq with hq | rfl
 ·exact h q hq
 ·exact hg
theorem K1 {k:Nat} {l:List PV} (h:uo k l l.length):uF k l=false:=by
 cases e:uF k l
 ·rfl
 ·obtain ⟨p,hp,hg⟩:=List.any_eq_true.1 e;rw [uo,List.take_length] at h;exact absurd (h p hp) (of_decide_eq_true hg)
theorem uq (l:List PV):aq (.flat false l.length 6 (bF l)) (.aR true 6 (l.map PV.cells)) :=
 F5 (by simp) (fun r hr=>by
  unfold bF;rw [List.getD_eq_getElem?_getD,List.getD_eq_getElem?_getD,List.getElem?_map,List.getElem?_eq_getElem hr]
  rfl) (fun r hr=>rfl)
def PL.sO (i:PL) (k:Nat):Value:=match i with | none=>.slice none 0 0 | some j=>.slice (some ⟨k,0,none⟩) j.1.length j.2
abbrev kM:=PL × PL
def cU:ax:={ ι:=kM,args:=fun i=>[i.1.val,i.2.sO i.1.ae.length],ae:=fun i=>i.1.ae++i.2.ae,pre:=fun i=>i.1.list.length≤1099511627776∧i.2.list.length≤1099511627776,val:=fun i=>.bool (decide (i.1.list=i.2.list)),new:=fun _=>none }
def vl (l m:List PV) (i:Nat):Prop:=l.take i=m.take i
theorem TC (l m:List PV):vl l m 0:=rfl
theorem UQ {l m:List PV} {i:Nat} {p q:PV} (h:vl l m i) (hp:l[i]?=some p) (hq:m[i]?=some q) (e:p=q):vl l m (i+1):=by
 unfold vl at *;rw [List.take_add_one,List.take_add_one,hp,hq,h,e]
theorem V4 {l m:List PV} (h:vl l m l.length) (hl:l.length=m.length):l=m:=by
 unfold vl at h;rw [List.take_length] at h;rw [h,hl,List.take_length]
theorem acG {l m:List PV} {i:Nat} {p q:PV} (hp:l[i]?=some p) (hq:m[i]?=some q) (e:p≠q):l≠m:=fun h=>by
 subst h; rw [hp] at hq; exact e (Option.some.inj hq)
section
variable (f:PV→PV→Int)
def s6 (x:PV):List PV→List PV
 | []=>[x]
 | y::r=>if f x y < 0 then y::s6 x r else x::y::r
def xN (l:List PV):List PV:=l.foldl (fun a x=>s6 f x a) []
theorem UR {l:List PV} {x:PV}:xN f (l++[x])=s6 f x (xN f l):=by unfold xN; rw [List.foldl_append]; rfl
end
structure aeP (f:PV→PV→Int):Prop where
 aeZ:∀ x y,f y x=-f x y
 trans:∀ x y z,f x y≤0→f y z≤0→f x z≤0
def Pg (f:PV→PV→Int) (l:List PV) (i:Nat):List PV:=(xN f (l.take i)).reverse++l.drop i
structure AB (f:PV→PV→Int) (l:List PV) (i j:Nat) (x:PV) (r B L:List PV):Prop where
 at_:l[i]?=some x
 acc:xN f (l.take i)=B++r
 ins:s6 f x (xN f (l.take i))=B++s6 f x r
 len:r.length=j
 all:L=r.reverse++x::(B.reverse++l.drop (i+1))
theorem AB.step {f:PV→PV→Int} {l:List PV} {i j:Nat} {x y:PV} {r B L:List PV} (h:AB f l i j x (y::r) B L) (hf:f x y < 0) :
  AB f l i (j - 1) x r (B++[y]) (r.reverse++x::y::(B.reverse++l.drop (i+1))):=by
 refine ⟨h.at_,by rw [h.acc]; simp,?_,?_,by simp⟩
 ·have e:s6 f x (y::r)=y::s6 f x r:=by
   show (if f x y < 0 then _ else _)=_
   rw [if_pos hf]
  rw [h.ins,e];simp
 ·have:=h.len; simp at this; omega
theorem AB.done {f:PV→PV→Int} {l:List PV} {i j:Nat} {x:PV} {r B L:List PV} (h:AB f l i j x r B L) (hs:s6 f x r=x::r):L=Pg f l (i+1):=by
 rw [h.all];unfold Pg;rw [List.take_add_one,h.at_];simp only [Option.toList_some];rw [UR,h.ins,hs];simp
open Go
open Go
open Go
open Go
open Go
abbrev Q3:=Rat × Rat × Rat
def R3.q (l:R3):Q3:=(l.1.q,l.2.1.q,l.2.2.q)
def zU (l:Q3):R3:=(RV.of l.1,RV.of l.2.1,RV.of l.2.2)
theorem OI (l:Q3):(zU l).q=l:=by
 show ((RV.of l.1).q,(RV.of l.2.1).q,(RV.of l.2.2).q)=l
 rw [RV.fw,RV.fw,RV.fw]
def Q3.sz (k:Nat) (l:Q3):Prop:=QB l.1 k∧QB l.2.1 k∧QB l.2.2 k
theorem R3.JD {l:R3} {k:Nat} (h:l.sz k) (hk:1≤k):Q3.sz k l.q:=⟨RV.fM h.1 hk,RV.fM h.2.1 hk,RV.fM h.2.2 hk⟩
theorem Xp {l:Q3} {k:Nat} (h:Q3.sz k l):(zU l).sz k:=⟨RV.jl h.1,RV.jl h.2.1,RV.jl h.2.2⟩
theorem R3.aP {l:R3} {k m:Nat} (h:l.sz k) (hk:k≤m):l.sz m:=⟨RV.aP h.1 hk,RV.aP h.2.1 hk,RV.aP h.2.2 hk⟩
theorem Q3.mono {l:Q3} {k m:Nat} (h:Q3.sz k l) (hk:k≤m):Q3.sz m l:=⟨h.1.mono hk,h.2.1.mono hk,h.2.2.mono hk⟩
theorem Q2.mono {l:Q2} {k m:Nat} (h:Q2.sz k l) (hk:k≤m):Q2.sz m l:=⟨h.1.mono hk,h.2.mono hk⟩
def uW:R3:=(dc,dc,dc)
def n3 (l:Q3):Q2:=(l.1,l.2.1)
def R3.n (l:R3):PV:=(l.1,l.2.1)
def bg (l:Q3) (p:Q2):Rat:=vj (n3 l) p - l.2.2
def mY (l:Q3):Prop:=¬ (l.1=0∧l.2.1=0)
instance (l:Q3):Decidable (mY l):=inferInstanceAs (Decidable (¬ (_∧_)))
def c8 (p q:Q2):Q3:=(p.2 - q.2,q.1 - p.1,(p.2 - q.2)*p.1+(q.1 - p.1)*p.2)
def pD (p q:Q2):R3 × Int:=if dV p q=0 then (uW,12) else (zU (c8 p q),0)
def qU (l m:Q3):Rat:=oa (n3 l) (n3 m)
def Ix (l m:Q3):Q2:=((l.2.2*m.2.1 - l.2.1*m.2.2) / qU l m,(l.1*m.2.2 - l.2.2*m.1) / qU l m)
def C6:PV:=(dc,dc)
def LE.v (x:R3 × Int):Value:=.tuple ⟨[x.1.v,.int .i64 x.2]⟩
def PE.v (x:PV × Int):Value:=.tuple ⟨[x.1.v,.int .i64 x.2]⟩
def ZE.v (x:Int × Int):Value:=.tuple ⟨[.int .i64 x.1,.int .i64 x.2]⟩
def lsz (l:R3):Prop:=l.sz 1048576
def Iy (p:PV):Prop:=p.sz 1048576
def BU:bG:={ ι:=kf,args:=fun i=>[i.1.v,i.2.v],pre:=fun i=>Iy i.1∧Iy i.2,val:=fun i=>LE.v (pD i.1.p i.2.p) }
def yU:bG:={ ι:=R3 × PV,args:=fun i=>[i.1.v,i.2.v],pre:=fun i=>i.1.sz 67108864∧i.2.sz 67108864,val:=fun i=>(RV.of (vj (n3 i.1.q) i.2.p)).v }
def yV:bG:={ ι:=R3 × PV,args:=fun i=>[i.1.v,i.2.v],pre:=fun i=>lsz i.1∧Iy i.2,val:=fun i=>(RV.of (bg i.1.q i.2.p)).v }
def uG:bG:={ ι:=kL,args:=fun i=>[i.1.v,i.2.v],pre:=kL.ok,val:=fun i=>(RV.of (i.1.q / i.2.q)).v }
def RV.pE (i:RV):Prop:=20 < i.2.1.size∨20 < i.2.2.size
instance (i:RV):Decidable i.pE:=inferInstanceAs (Decidable (_∨_))
def R3.pE (l:R3):Prop:=l.1.pE∨l.2.1.pE∨l.2.2.pE
instance (l:R3):Decidable l.pE:=inferInstanceAs (Decidable (_∨_∨_))
def PV.pE (p:PV):Prop:=p.1.pE∨p.2.pE
instance (l:PV):Decidable l.pE:=inferInstanceAs (Decidable (_∨_))
open Go
theorem V5 (k:Nat):uW.sz k:=⟨rW _,rW _,rW _⟩
theorem V6 (k:Nat):C6.sz k:=⟨rW _,rW _⟩
theorem wJ {k:Nat}:QB dc.q (k+1):=RV.fM (rW _) (by omega)
theorem V7 (k:Nat):Q3.sz (k+1) uW.q:=⟨wJ,wJ,wJ⟩
theorem V8 (k:Nat):Q2.sz (k+1) C6.p:=⟨wJ,wJ⟩
theorem Hi {p q:Q2} {k l:Nat} (hp:Q2.sz k p) (hq:Q2.sz l q):Q3.sz (k+l+1+k+(k+l+1+k)+1) (c8 p q) :=
 ⟨(hp.2.sub hq.2).mono (by omega),(hq.1.sub hp.1).mono (by omega),(((hp.2.sub hq.2).mul hp.1).add (((hq.1.sub hp.1).mono (show l+k+1≤k+l+1 by omega)).mul hp.2)).mono (by omega)⟩
theorem CI {l:Q3} {p:Q2} {k m:Nat} (hl:Q3.sz k l) (hp:Q2.sz m p):QB (bg l p) (k+m+(k+m)+1+k+1):=(Hg (a:=n3 l) ⟨hl.1,hl.2.1⟩ hp).sub hl.2.2
theorem CJ {l:Q3} {k:Nat} (hl:Q3.sz k l):Q2.sz k (n3 l):=⟨hl.1,hl.2.1⟩
theorem OJ {l m:Q3} {k j:Nat} (hl:Q3.sz k l) (hm:Q3.sz j m):QB (qU l m) (k+j+(k+j)+1):=wI (CJ hl) (CJ hm)
theorem aac {l m:Q3} {k j:Nat} (hl:Q3.sz k l) (hm:Q3.sz j m):Q2.sz (k+j+(k+j)+1+(k+j+(k+j)+1)) (Ix l m) :=
 ⟨((hl.2.2.mul hm.2.1).sub (hl.2.1.mul hm.2.2)).div (OJ hl hm) (by omega),((hl.1.mul hm.2.2).sub (hl.2.2.mul hm.1)).div (OJ hl hm) (by omega)⟩
theorem aad {x:R3 × Int} {k:Nat} (h:x.1.sz k∧Q3.sz k x.1.q):∃ (u:R3) (e:Int),LE.v x=.tuple ⟨[u.v,.int .i64 e]⟩∧x=(u,e)∧u.sz k∧Q3.sz k u.q:=⟨x.1,x.2,rfl,rfl,h.1,h.2⟩
theorem acH {x:Q3} {k:Nat} (h:Q3.sz k x):(zU x).sz k∧Q3.sz k (zU x).q:=⟨Xp h,by rw [OI]; exact h⟩
theorem z3 {k:Nat} (h:1≤k):uW.sz k∧Q3.sz k uW.q:=⟨V5 _,Q3.mono (V7 0) h⟩
theorem z2 {k:Nat} (h:1≤k):C6.sz k∧Q2.sz k C6.p:=⟨V6 _,Q2.mono (V8 0) h⟩
theorem Xq {p q:Q2} {k l:Nat} (hp:Q2.sz k p) (hq:Q2.sz l q):(pD p q).1.sz (k+l+1+k+(k+l+1+k)+1)∧Q3.sz (k+l+1+k+(k+l+1+k)+1) (pD p q).1.q:=by
 unfold pD
 split
 ·exact z3 (by omega)
 ·exact acH (Hi hp hq)
theorem R3.iF {a b:R3} (h:a.v=b.v):a=b:=by
 have h:Value.agg ⟨[.bool a.1.1,.string a.1.2.1,.string a.1.2.2,.bool a.2.1.1,.string a.2.1.2.1,.string a.2.1.2.2,.bool a.2.2.1,.string a.2.2.2.1,.string a.2.2.2.2]⟩=Value.agg ⟨[.bool b.1.1,.string b.1.2.1,.string b.1.2.2,.bool b.2.1.1,.string b.2.1.2.1,.string b.2.1.2.2,.bool b.2.2.1,.string b.2.2.2.1,.string b.2.2.2.2]⟩:=h;simp only [Value.agg.injEq,Array.mk.injEq,List.cons.injEq,Value.bool.injEq,Value.string.injEq] at h;obtain ⟨h1,J,h3,h4,h5,h6,h7,h8,h9,_⟩:=h;exact Prod.ext (Prod.ext h1 (Prod.ext J h3)) (Prod.ext (Prod.ext h4 (Prod.ext h5 h6)) (Prod.ext h7 (Prod.ext h8 h9)))
theorem mkL {x y z:RV} {k l m:Nat} (hx:x.sz k) (hy:y.sz l) (hz:z.sz m):R3.sz (max k (max l m)) (x,y,z):=⟨RV.aP hx (by omega),RV.aP hy (by omega),RV.aP hz (by omega)⟩
theorem aeh {x y z:RV} {k l m:Nat} (hx:QB x.q k) (hy:QB y.q l) (hz:QB z.q m):Q3.sz (max k (max l m)) (R3.q (x,y,z)):=⟨hx.mono (by omega),hy.mono (by omega),hz.mono (by omega)⟩
theorem jL:QB (2:Rat) 1:=zg (n:=2) (by decide)
open Go
theorem fR (a b c:Q2):aB a b c=(b.1 - a.1)*(c.2 - a.2) - (b.2 - a.2)*(c.1 - a.1):=rfl
theorem wT (a b c:Q2):aB a b c=aB b c a:=by rw [fR,fR]; grind
theorem yG (a b c:Q2):aB a c b=-aB a b c:=by rw [fR,fR]; grind
theorem Cg (a b:Q2):aB a a b=0:=by rw [fR]; grind
theorem sj (a b:Q2):aB a b a=0:=by rw [fR]; grind
theorem p9 (a b:Q2):aB a b b=0:=by rw [fR]; grind
theorem M8 (a b c d:Q2) (t:Rat):aB (atR a b t) c d=(1 - t)*aB a c d+t*aB b c d:=by
 simp only [fR,atR]; grind
theorem V9 (a b c d:Q2) (t:Rat):aB c (atR a b t) d=(1 - t)*aB c a d+t*aB c b d:=by
 simp only [fR,atR]; grind
theorem M9 (a b c d:Q2) (t:Rat):aB c d (atR a b t)=(1 - t)*aB c d a+t*aB c d b:=by
 simp only [fR,atR]; grind
theorem tT {x y t:Rat} (h0:0≤t) (h1:t≤1) (hx:0≤x) (hy:0≤y):0≤(1 - t)*x+t*y:=by
 have a:=Rat.mul_nonneg (show 0≤1 - t by grind) hx
 have b:=Rat.mul_nonneg h0 hy;grind
def pr (a:Q2) (l:List Q2):Prop:=l.Pairwise (fun b c=>0≤aB a b c)
def bO:List Q2→Prop
 | []=>True
 | a::l=>pr a l∧bO l
theorem bO.sublist {l m:List Q2} (h:bO m) (hs:l.Sublist m):bO l:=by
 induction hs with
 | slnil=>exact trivial
 | cons a hs ih=>exact ih h.2
 | cons_cons a hs ih=>exact ⟨h.1.sublist hs,ih h.2⟩
theorem bO.filter {l:List Q2} (h:bO l) (f:Q2→Bool):bO (l.filter f):=h.sublist List.filter_sublist
theorem pr.ins {a p q:Q2} {t:Rat} {A B:List Q2} (h0:0≤t) (h1:t≤1) (h:pr a (A++p::q::B)):pr a (A++p::atR p q t::q::B):=by
 unfold pr at *;rw [List.pairwise_append] at h ⊢;obtain ⟨hA,hB,oD⟩:=h;rw [List.pairwise_cons,List.pairwise_cons] at hB;obtain ⟨hp,hq,hB⟩:=hB;refine ⟨hA,?_,?_⟩
 ·rw [List.pairwise_cons,List.pairwise_cons,List.pairwise_cons];refine ⟨?_,?_,hq,hB⟩
  ·intro z hz;rcases List.mem_cons.1 hz with rfl | hz
   ·rw [M9,p9];exact tT h0 h1 (by grind) (hp _ (List.mem_cons_self ..))
   ·exact hp z hz
  ·intro z hz;rw [V9];rcases List.mem_cons.1 hz with rfl | hz
   ·exact tT h0 h1 (hp _ (List.mem_cons_self ..)) (by rw [p9]; grind)
   ·exact tT h0 h1 (hp _ (List.mem_cons_of_mem _ hz)) (hq _ hz)
 ·intro y hy z hz;rcases List.mem_cons.1 hz with rfl | hz
  ·exact oD y hy _ (List.mem_cons_self ..)
  ·rcases List.mem_cons.1 hz with rfl | hz
   ·rw [M9];exact tT h0 h1 (oD y hy _ (List.mem_cons_self ..)) (oD y hy _ (List.mem_cons_of_mem _ (List.mem_cons_self ..)))
   ·exact oD y hy _ (List.mem_cons_of_mem _ hz)
theorem bO.ins {p q:Q2} {t:Rat} {A B:List Q2} (h0:0≤t) (h1:t≤1) (h:bO (A++p::q::B)):bO (A++p::atR p q t::q::B):=by
 induction A with
 | cons a A ih=>exact ⟨h.1.ins h0 h1,ih h.2⟩
 | nil =>
  obtain ⟨hp,hq,hB⟩:=h;refine ⟨pr.ins (A:=[]) (p:=p) h0 h1 (by
   show List.Pairwise _ (p::q::B)
   rw [List.pairwise_cons];exact ⟨fun z hz=>by rw [Cg]; grind,hp⟩) |>.sublist (List.sublist_cons_self ..),?_,hq,hB⟩
  unfold pr at *;rw [List.pairwise_cons] at hp ⊢;obtain ⟨hp,hpB⟩:=hp;refine ⟨fun z hz=>?_,?_⟩
  ·rw [M8,Cg];exact tT h0 h1 (hp z hz) (by grind)
  ·exact (hpB.and hq).imp (fun ⟨x,y⟩=>by rw [M8]; exact tT h0 h1 x y)
theorem bO.snoc {A:List Q2} {x:Q2} (h:bO A) (hx:A.Pairwise (fun y z=>0≤aB y z x)):bO (A++[x]):=by
 induction A with
 | nil=>exact ⟨.nil,trivial⟩
 | cons a A ih =>
  rw [List.pairwise_cons] at hx;refine ⟨?_,ih h.2 hx.2⟩;show List.Pairwise _ (A++[x])
  rw [List.pairwise_append];exact ⟨h.1,by simp,fun y hy z hz=>by simp at hz; subst hz; exact hx.1 y hy⟩
theorem bO.aei {a:Q2} {l:List Q2} (h:bO (a::l)):bO (l++[a]) :=
 h.2.snoc (h.1.imp (fun {y z} h=>by rw [wT,wT]; rw [← wT] at *; first | exact h | (rw [wT]; exact h)))
theorem bO.vN {A B:List Q2} (h:bO (A++B)):bO (B++A):=by
 induction A generalizing B with
 | nil=>rw [List.append_nil]; exact h
 | cons a A ih =>
  have:bO ((A++B)++[a]):=h.aei;rw [List.append_assoc] at this;have:=ih this
  rwa [List.append_assoc] at this
theorem bO.last {p h0:Q2} {t:Rat} {A:List Q2} (h1:0≤t) (J:t≤1) (h:bO (A++[p])) (hh:(A++[p]).head?=some h0):bO (A++[p,atR p h0 t]):=by
 have:=h.vN;cases A with
 | nil =>
  simp at hh; subst hh;exact ⟨by unfold pr; simp,by unfold pr; simp,trivial⟩
 | cons a A =>
  simp at hh; subst hh;have:=bO.ins (A:=[]) h1 J this;have:=bO.vN (A:=[p,atR p a t]) (B:=a::A) this;exact this
open Go
def cI {α:Type} (l:List α):List (α × α):=l.zip l.tail
def bf {α:Type} (l:List α):List (α × α):=cI (l++l.head?.toList)
theorem mu {α:Type} (p q:α) (l:List α):cI (p::q::l)=(p,q)::cI (q::l):=rfl
theorem wc {α:Type} (A B:List α) (x:α):cI (A++x::B)=cI (A++[x])++cI (x::B):=by
 induction A with
 | nil=>rfl
 | cons a A ih =>
  cases A with
  | nil=>rfl
  | cons b A =>
   show (a,b)::cI (b::A++x::B)=(a,b)::cI (b::A++[x])++_
   rw [ih]; rfl
theorem TD {α:Type} {l:List α} {e:α × α} (h:e∈cI l):e.1∈l∧e.2∈l:=by
 have:=List.of_mem_zip h;exact ⟨this.1,List.mem_of_mem_tail this.2⟩
theorem we {α:Type} (h:α) (l:List α):bf (h::l)=cI (h::l++[h]):=rfl
theorem oU {α:Type} {l:List α} {e:α × α} (h:e∈bf l):e.1∈l∧e.2∈l:=by
 cases l with
 | nil=>cases h
 | cons a l =>
  have:=TD h;simp at this ⊢;exact ⟨by rcases this.1 with h | h | h <;> simp [h],by rcases this.2 with h | h | h <;> simp [h]⟩
theorem BD {α:Type} {A B:List α} {e:α × α} (h:e∈bf (A++B)):e∈bf (B++A):=by
 cases A with
 | nil=>rw [List.append_nil]; exact h
 | cons a A =>
  cases B with
  | nil=>rw [List.append_nil] at h; exact h
  | cons b B =>
   have h1:bf (a::A++b::B)=cI (a::A++[b])++cI (b::B++[a]):=by
    show cI ((a::A++b::B)++[a])=_
    rw [List.append_assoc];exact wc (a::A) (B++[a]) b
   have J:bf (b::B++a::A)=cI (b::B++[a])++cI (a::A++[b]):=by
    show cI ((b::B++a::A)++[b])=_
    rw [List.append_assoc];exact wc (b::B) (A++[b]) a
   rw [h1] at h;rw [J];rcases List.mem_append.1 h with h | h
   ·exact List.mem_append_right _ h
   ·exact List.mem_append_left _ h
theorem US {α β:Type} (f:α→β) (l:List α):bf (l.map f)=(bf l).map (fun e=>(f e.1,f e.2)):=by
 unfold bf cI;have:l.map f++(l.map f).head?.toList=(l++l.head?.toList).map f:=by cases l <;> simp
 rw [this,← List.map_tail,List.zip_map]
 rfl
theorem TE {α:Type} {l:List α} {i:Nat} {p q:α} (hp:l[i]?=some p) (hq:l[i+1]?=some q):(cI l)[i]?=some (p,q):=by
 unfold cI;rw [List.getElem?_zip_eq_some];exact ⟨hp,by rw [List.getElem?_tail]; exact hq⟩
theorem kP {α:Type} (l:List α):(bf l).length=l.length:=by
 cases l with
 | nil=>rfl
 | cons a l=>rw [we]; unfold cI; simp
theorem oV {α:Type} {l:List α} {i:Nat} {p q:α} (hp:l[i]?=some p) (hq:l[(i+1) % l.length]?=some q):(bf l)[i]?=some (p,q):=by
 cases l with
 | nil=>simp at hp
 | cons a l =>
  have hi:i < (a::l).length:=(List.getElem?_eq_some_iff.1 hp).1;rw [we];refine TE (by rw [List.getElem?_append_left hi]; exact hp) ?_
  rcases Nat.lt_or_eq_of_le (show i+1≤(a::l).length from hi) with h | h
  ·rw [Nat.mod_eq_of_lt h] at hq;rw [List.getElem?_append_left h]; exact hq
  ·rw [h,Nat.mod_self] at hq;rw [List.getElem?_append_right (by omega),h,Nat.sub_self]
   exact hq
theorem kS (l:Q3) (p:Q2):bg l p=l.1*p.1+l.2.1*p.2 - l.2.2:=rfl
theorem BV (m:Q3) (a b:Q2) (t:Rat):bg m (atR a b t)=(1 - t)*bg m a+t*bg m b:=by
 simp only [kS,atR]; grind
def jf (m:Q3) (p q:Q2):Rat:=bg m p / (bg m p - bg m q)
def gV (m:Q3) (p q:Q2):List Q2:=if aW (bg m p) 0*aW (bg m q) 0 < 0 then [atR p q (jf m p q)] else []
def mF (m:Q3) (p:Q2):List Q2:=if aW (bg m p) 0 ≥ 0 then [p] else []
def dg (m:Q3) (l:List Q2):List Q2:=(bf l).flatMap fun e=>mF m e.1++gV m e.1 e.2
def P7 (m:Q3) (l:List Q2):List Q2:=(bf l).flatMap fun e=>e.1::gV m e.1 e.2
theorem BE {m:Q3} {p q:Q2}:aW (bg m p) 0*aW (bg m q) 0 < 0↔(0 < bg m p∧bg m q < 0)∨(bg m p < 0∧0 < bg m q):=by
 rcases Br (bg m p) with ⟨h1,J⟩ | ⟨h1,J⟩ | ⟨h1,J⟩ <;> rcases Br (bg m q) with ⟨h3,h4⟩ | ⟨h3,h4⟩ | ⟨h3,h4⟩ <;> rw [J,h4] <;> constructor <;> intro h <;> first | grind | omega
theorem Wa {x y:Rat} (h:(0 < x∧y < 0)∨(x < 0∧0 < y)):0≤x / (x - y)∧x / (x - y)≤1∧(x / (x - y))*(x - y)=x:=by
 have aN:x - y≠0:=by grind
 have e:(x / (x - y))*(x - y)=x:=by rw [Rat.div_def]; grind
 refine ⟨?_,?_,e⟩
 ·rcases h with ⟨h1,J⟩ | ⟨h1,J⟩
  ·by_cases h3:x / (x - y) < 0
   ·have:=Rat.mul_pos (show 0 < -(x / (x - y)) by grind) (show 0 < x - y by grind); grind
   ·grind
  ·by_cases h3:x / (x - y) < 0
   ·have:=Rat.mul_pos (show 0 < -(x / (x - y)) by grind) (show 0 < y - x by grind); grind
   ·grind
 ·rcases h with ⟨h1,J⟩ | ⟨h1,J⟩
  ·by_cases h3:1 < x / (x - y)
   ·have:=Rat.mul_pos (show 0 < x / (x - y) - 1 by grind) (show 0 < x - y by grind); grind
   ·grind
  ·by_cases h3:1 < x / (x - y)
   ·have:=Rat.mul_pos (show 0 < x / (x - y) - 1 by grind) (show 0 < y - x by grind); grind
   ·grind
theorem yh {m:Q3} {p q x:Q2} (h:x∈gV m p q):((0 < bg m p∧bg m q < 0)∨(bg m p < 0∧0 < bg m q))∧x=atR p q (jf m p q)∧0≤jf m p q∧jf m p q≤1∧bg m x=0:=by
 unfold gV at h
 split at h
 ·rename_i h1;have h1:=BE.1 h1;simp at h;obtain ⟨J,h3,h4⟩:=Wa h1;refine ⟨h1,h,J,h3,?_⟩;rw [h,BV];unfold jf;grind
 ·cases h
theorem Fy {m:Q3} {p q:Q2} (h:(0 < bg m p∧bg m q < 0)∨(bg m p < 0∧0 < bg m q)):gV m p q=[atR p q (jf m p q)]:=by
 unfold gV; rw [if_pos (BE.2 h)]
theorem KH (m:Q3) (p q:Q2):gV m p q=[]∨(gV m p q=[atR p q (jf m p q)]∧0≤jf m p q∧jf m p q≤1):=by
 by_cases h:aW (bg m p) 0*aW (bg m q) 0 < 0
 ·have h1:=Fy (BE.1 h);have:=yh (x:=atR p q (jf m p q)) (by rw [h1]; simp)
  exact .inr ⟨h1,this.2.2.1,this.2.2.2.1⟩
 ·left; unfold gV; rw [if_neg h]
theorem TF (m:Q3) (l:List Q2):dg m l=(P7 m l).filter fun p=>decide (0≤bg m p):=by
 unfold dg P7;rw [List.filter_flatMap]
 congr 1
 funext e
 rw [List.filter_cons];have h1:(gV m e.1 e.2).filter (fun p=>decide (0≤bg m p))=gV m e.1 e.2:=by
  rw [List.filter_eq_self];intro x hx;have:=(yh hx).2.2.2.2;rw [this]; decide
 rw [h1];unfold mF;by_cases h:0≤bg m e.1
 ·rw [if_pos (si.2 h),if_pos (by simpa using h)]; rfl
 ·rw [if_neg (fun J=>h (si.1 J)),if_neg (by simpa using h)]; rfl
theorem Wb (m:Q3) {h:Q2}:∀ (B:List Q2) (p:Q2) (A:List Q2),bO (A++p::B)→(A++p::B).head?=some h→bO (A++(cI (p::B++[h])).flatMap fun e=>e.1::gV m e.1 e.2):=by
 intro B
 induction B with
 | nil =>
  intro p A ht hh;show bO (A++((p::gV m p h)++[]))
  rw [List.append_nil];rcases KH m p h with e | ⟨e,h1,J⟩
  ·rw [e]; exact ht
  ·rw [e]; exact ht.last h1 J hh
 | cons q B ih =>
  intro p A ht hh;show bO (A++((p::gV m p q)++(cI (q::B++[h])).flatMap fun e=>e.1::gV m e.1 e.2))
  rw [← List.append_assoc];rcases KH m p q with e | ⟨e,h1,J⟩
  ·rw [e];exact ih q (A++[p]) (by rw [List.append_assoc]; exact ht) (by rw [List.append_assoc]; exact hh)
  ·rw [e];refine ih q (A++[p,atR p q (jf m p q)]) ?_ ?_
   ·rw [List.append_assoc]; exact ht.ins h1 J
   ·cases A with
    | nil=>exact hh
    | cons a A=>exact hh
theorem Wc {m:Q3} {l:List Q2} (h:bO l):bO (dg m l):=by
 rw [TF];refine bO.filter ?_ _;cases l with
 | nil=>exact trivial
 | cons a l=>exact Wb m l a [] h rfl
open Go
def ij (P:List Q2) (p:Q2):Prop:=∀ f:Q3,(∀ v∈P,0≤bg f v)→0≤bg f p
theorem ij.o8 {P:List Q2} {v:Q2} (h:v∈P):ij P v:=fun f hf=>hf v h
theorem ij.trans {P Q:List Q2} {p:Q2} (h:ij P p) (hq:∀ v∈P,ij Q v):ij Q p:=fun f hf=>h f (fun v hv=>hq v hv f hf)
theorem ij.mono {P Q:List Q2} {p:Q2} (h:ij P p) (hq:∀ v∈P,v∈Q):ij Q p:=h.trans fun v hv=>.o8 (hq v hv)
theorem ij.nil (p:Q2):¬ ij [] p:=fun h=>by
 have:=h (0,0,1) (fun v hv=>nomatch hv)
 rw [kS] at this;grind
theorem ij.at {P:List Q2} {a b:Q2} {t:Rat} (ha:ij P a) (hb:ij P b) (h0:0≤t) (h1:t≤1):ij P (atR a b t):=fun f hf=>by
 rw [BV]; exact tT h0 h1 (ha f hf) (hb f hf)
theorem Xr {m:Q3} {P:List Q2} {x:Q2} (h:x∈dg m P):(x∈P∧0≤bg m x)∨∃ e∈bf P,x∈gV m e.1 e.2:=by
 unfold dg at h;obtain ⟨e,he,hx⟩:=List.mem_flatMap.1 h;rcases List.mem_append.1 hx with hx | hx
 ·left
  unfold mF at hx
  split at hx
  ·rename_i hc;simp at hx;rw [hx];exact ⟨(oU he).1,si.1 hc⟩
  ·cases hx
 ·exact .inr ⟨e,he,hx⟩
theorem bO.mid {v w x:Q2} {A B:List Q2} (h:bO (v::A++w::B)) (hx:x∈v::A++[w]):aB v w x≤0:=by
 have hl:List.Pairwise (fun b c=>0≤aB v b c) (A++w::B):=h.1
 rw [List.pairwise_append] at hl;simp only [List.cons_append,List.mem_cons,List.mem_append,List.not_mem_nil,or_false] at hx;rcases hx with rfl | hx | rfl
 ·rw [sj]; grind
 ·have:=hl.2.2 x hx w (List.mem_cons_self ..);rw [yG]; grind
 ·rw [p9]; grind
theorem bO.back {v w x:Q2} {A B:List Q2} (h:bO (v::A++w::B)) (hx:x∈w::B++[v]):0≤aB v w x:=by
 have hl:List.Pairwise (fun b c=>0≤aB v b c) (A++w::B):=h.1
 rw [List.pairwise_append,List.pairwise_cons] at hl;simp only [List.cons_append,List.mem_cons,List.mem_append,List.not_mem_nil,or_false] at hx;rcases hx with rfl | hx | rfl
 ·rw [p9]; grind
 ·exact hl.2.1.1 x hx
 ·rw [sj]; grind
open Go
def pO (a b:Q2):Q3:=(-(b.2 - a.2),b.1 - a.1,(b.1 - a.1)*a.2 - (b.2 - a.2)*a.1)
theorem oZ (a b z:Q2):bg (pO a b) z=aB a b z:=by simp only [kS,fR,pO]; grind
def Iz (f g:Q3):Q3:=(f.1+g.1,f.2.1+g.2.1,f.2.2+g.2.2)
theorem Na (f g:Q3) (z:Q2):bg (Iz f g) z=bg f z+bg g z:=by simp only [kS,Iz]; grind
theorem GK {a b:Q2} (h:a≠b):mY (pO a b):=fun ⟨h1,J⟩=>h (Prod.ext (by unfold pO at J; grind) (by unfold pO at h1; grind))
theorem KI {α:Type} {l:List α} {e:α × α} (h:e∈cI l):∃ A B,l=A++e.1::e.2::B:=by
 induction l with
 | nil=>cases h
 | cons a l ih =>
  cases l with
  | nil=>cases h
  | cons b l =>
   rw [mu] at h;rcases List.mem_cons.1 h with rfl | h
   ·exact ⟨[],l,rfl⟩
   ·obtain ⟨A,B,oD⟩:=ih h;exact ⟨a::A,B,by rw [oD]; rfl⟩
theorem Wd {α:Type} {P:List α} {a b:α} (h:(a,b)∈bf P):(P=[a]∧b=a)∨∃ X Y M,P=X++Y∧Y++X=a::b::M:=by
 cases P with
 | nil=>cases h
 | cons c l =>
  obtain ⟨A,B,oD⟩:=KI h;have oD:c::l++[c]=A++a::b::B:=oD;rcases List.eq_nil_or_concat B with rfl | ⟨B,d,rfl⟩
  ·have h1:c::l++[c]=(A++[a])++[b]:=by rw [oD]; simp
   have J:=List.append_inj' h1 rfl;simp at J;obtain ⟨J,h3⟩:=J;cases A with
   | nil =>
    simp at J
    left; rw [J.1,J.2]; exact ⟨rfl,h3.symm.trans J.1⟩
   | cons x A =>
    right
    refine ⟨x::A,[a],A,by rw [J],?_⟩
    have:c=x:=by injection J
    show a::x::A=_
    rw [← this,h3]
  ·have h1:c::l++[c]=(A++a::b::B)++[d]:=by rw [oD]; simp
   have J:=(List.append_inj' h1 rfl).1
   right
   exact ⟨A,a::b::B,B++A,J,rfl⟩
theorem pX {P:List Q2} {a b z:Q2} (hT:bO P) (h:(a,b)∈bf P) (hz:z∈P):0≤aB a b z:=by
 rcases Wd h with ⟨rfl,rfl⟩ | ⟨X,Y,M,rfl,J⟩
 ·rw [Cg]; grind
 ·have tC:=hT.vN;rw [J] at tC;have oz:z∈a::b::M:=by
   rw [← J]; rcases List.mem_append.1 hz with h | h
   ·exact List.mem_append_right _ h
   ·exact List.mem_append_left _ h
  have:=tC.1;unfold pr at this;rw [List.pairwise_cons] at this;rcases List.mem_cons.1 oz with rfl | oz
  ·rw [sj]; grind
  ·rcases List.mem_cons.1 oz with rfl | oz
   ·rw [p9]; grind
   ·exact this.1 z oz
theorem Fz {P:List Q2} {a b z:Q2} (hT:bO P) (h:(a,b)∈bf P) (hz:ij P z):0≤aB a b z:=by
 rw [← oZ];exact hz _ fun v hv=>by rw [oZ]; exact pX hT h hv
def gr (P:List Q2) (v:Q2):Prop:=ij P v∧∃ f,bg f v=0∧∀ z,ij P z→z≠v→0 < bg f z
def iQ (P Q:List Q2):Prop:=∀ p,ij P p↔ij Q p
theorem iQ.symm {P Q:List Q2} (h:iQ P Q):iQ Q P:=fun p=>(h p).symm
theorem iQ.trans {P Q R:List Q2} (h:iQ P Q) (g:iQ Q R):iQ P R:=fun p=>(h p).trans (g p)
theorem iQ.rfl' {P:List Q2}:iQ P P:=fun p=>Iff.rfl
theorem iQ.o8 {P Q:List Q2} (h:∀ v,v∈P↔v∈Q):iQ P Q:=fun p=>⟨fun hp=>hp.mono fun v hv=>(h v).1 hv,fun hp=>hp.mono fun v hv=>(h v).2 hv⟩
theorem gr.same {P Q:List Q2} {v:Q2} (h:gr P v) (hs:iQ P Q):gr Q v :=
 ⟨(hs v).1 h.1,h.2.imp fun f hf=>⟨hf.1,fun z hz aN=>hf.2 z ((hs z).2 hz) aN⟩⟩
theorem UT (f:Q3):∀ P:List Q2,(∀ v∈P,0 < bg f v)→∃ e:Rat,0 < e∧∀ v∈P,e≤bg f v:=by
 intro P
 induction P with
 | nil=>exact fun _=>⟨1,by grind,fun v hv=>by cases hv⟩
 | cons a P ih =>
  intro h;obtain ⟨e,he,hP⟩:=ih fun v hv=>h v (List.mem_cons_of_mem _ hv)
  have ha:=h a (List.mem_cons_self ..);by_cases hc:e≤bg f a
  ·exact ⟨e,he,fun v hv=>by rcases List.mem_cons.1 hv with rfl | hv; exact hc; exact hP v hv⟩
  ·exact ⟨bg f a,ha,fun v hv=>by
    rcases List.mem_cons.1 hv with rfl | hv
    ·grind
    ·have:=hP v hv; grind⟩
theorem gr.mem {P:List Q2} {v:Q2} (h:gr P v):v∈P:=by
 refine Decidable.byContradiction fun hn=>?_
 obtain ⟨h1,f,J,h3⟩:=h;obtain ⟨e,he,h4⟩:=UT f P fun z hz=>h3 z (.o8 hz) fun e=>hn (e ▸ hz)
 have:=h1 (f.1,f.2.1,f.2.2+e) fun z hz=>by
  have:=h4 z hz;have e2:bg (f.1,f.2.1,f.2.2+e) z=bg f z - e:=by simp only [kS]; grind
  rw [e2]; grind
 have e2:bg (f.1,f.2.1,f.2.2+e) v=bg f v - e:=by simp only [kS]; grind
 rw [e2,J] at this;grind
theorem Xs {p v q z:Q2} (h1:aB p v z=0) (J:aB v q z=0) (h:aB p v q≠0):z=v:=by
 rw [fR] at h1 J h;have a:((v.1 - p.1)*(q.2 - p.2) - (v.2 - p.2)*(q.1 - p.1))*(z.1 - v.1)=0:=by grind
 have b:((v.1 - p.1)*(q.2 - p.2) - (v.2 - p.2)*(q.1 - p.1))*(z.2 - v.2)=0:=by grind
 have a:=(Rat.mul_eq_zero.1 a).resolve_left h;have b:=(Rat.mul_eq_zero.1 b).resolve_left h;exact Prod.ext (by grind) (by grind)
theorem LC {P:List Q2} {p v q:Q2} (hT:bO P) (h1:(p,v)∈bf P) (J:(v,q)∈bf P) (h:aB p v q≠0):gr P v:=by
 refine ⟨.o8 (oU J).1,Iz (pO p v) (pO v q),?_,fun z hz aN=>?_⟩
 ·rw [Na,oZ,oZ,p9,sj]; grind
 ·rw [Na,oZ,oZ];have a:=Fz hT h1 hz;have b:=Fz hT J hz;by_cases h0:aB p v z+aB v q z=0
  ·exact absurd (Xs (by grind) (by grind) h) aN
  ·grind
theorem gr.Bj {P:List Q2} {v a b:Q2} {t:Rat} (h:gr P v) (ha:ij P a) (hb:ij P b) (hav:a≠v) (hbv:b≠v) (h0:0 < t) (h1:t < 1):v≠atR a b t:=fun e=>by
 obtain ⟨_,f,J,h3⟩:=h;have x:=h3 a ha hav;have y:=h3 b hb hbv;rw [e,BV] at J;have:=Rat.mul_pos (show 0 < 1 - t by grind) x
 have:=Rat.mul_pos h0 y;grind
def Flat (P:List Q2):Prop:=∃ f,mY f∧∀ v∈P,bg f v=0
theorem We {P:List Q2} {a b:Q2} (h:¬ Flat P) (eZ:a≠b):∃ z∈P,aB a b z≠0:=by
 refine Decidable.byContradiction fun hn=>h ⟨pO a b,GK eZ,fun v hv=>?_⟩
 rw [oZ];exact Decidable.byContradiction fun h=>hn ⟨v,hv,h⟩
theorem Flat.mono {P Q:List Q2} (h:Flat Q) (hs:∀ v∈P,v∈Q):Flat P:=h.imp fun f hf=>⟨hf.1,fun v hv=>hf.2 v (hs v hv)⟩
theorem LD {P:List Q2} {p v q:Q2} (hT:bO P) (hF:¬ Flat P) (h1:(p,v)∈bf P) (J:(v,q)∈bf P) (kg:p≠v) (dk:v≠q) (h:aB p v q=0):∃ t,0 < t∧t < 1∧v=atR p q t:=by
 obtain ⟨z,hz,gI⟩:=We hF kg;have a:=pX hT h1 hz;have b:=pX hT J hz;obtain ⟨s,Q6,pK⟩:∃ s:Rat,q.1 - v.1=s*(v.1 - p.1)∧q.2 - v.2=s*(v.2 - p.2):=by
  rw [fR] at h;by_cases hx:v.1 - p.1=0
  ·have hy:v.2 - p.2≠0:=fun hy=>kg (Prod.ext (by grind) (by grind))
   refine ⟨(q.2 - v.2) / (v.2 - p.2),?_,?_⟩
   ·rw [hx] at h ⊢;have:(v.2 - p.2)*(q.1 - p.1)=0:=by grind
    have:=(Rat.mul_eq_zero.1 this).resolve_left hy;grind
   ·rw [Rat.div_def]; grind
  ·refine ⟨(q.1 - v.1) / (v.1 - p.1),?_,?_⟩
   ·rw [Rat.div_def]; grind
   ·rw [Rat.div_def];have:(v.1 - p.1)*(q.2 - v.2)=(v.1 - p.1)*((q.1 - v.1)*(v.1 - p.1)⁻¹*(v.2 - p.2)):=by grind
    have h0:(v.1 - p.1)*((q.2 - v.2) - ((q.1 - v.1)*(v.1 - p.1)⁻¹*(v.2 - p.2)))=0:=by grind
    have:=(Rat.mul_eq_zero.1 h0).resolve_left hx;grind
 have e:aB v q z=s*aB p v z:=by
  rw [fR,fR,Q6,pK]; grind
 have hs:0 < s:=by
  by_cases h0:s=0
  ·subst h0;exact absurd (Prod.ext (by grind) (by grind)) dk
  ·by_cases h1:0 < s
   ·exact h1
   ·have:=Rat.mul_pos (show 0 < -s by grind) (show 0 < aB p v z by grind)
    grind
 have aN:1+s≠0:=by grind
 have hi:(1+s)⁻¹*(1+s)=1:=by grind
 have gH:0 < (1+s)⁻¹:=by
  by_cases h1:0 < (1+s)⁻¹
  ·exact h1
  ·have:=Rat.mul_nonneg (show 0≤-(1+s)⁻¹ by grind) (show 0≤1+s by grind)
   grind
 refine ⟨(1+s)⁻¹,gH,?_,?_⟩
 ·have:=Rat.mul_pos gH hs;grind
 ·unfold atR;refine Prod.ext ?_ ?_
  ·have:q.1 - p.1=(1+s)*(v.1 - p.1):=by grind
   show v.1=p.1+(q.1 - p.1)*(1+s)⁻¹
   rw [this]; grind
  ·have:q.2 - p.2=(1+s)*(v.2 - p.2):=by grind
   show v.2=p.2+(q.2 - p.2)*(1+s)⁻¹
   rw [this]; grind
theorem Wf {α:Type} [DecidableEq α]:∀ {l:List α},(∀ A h B C,l≠A++h::B++h::C)→l.Nodup:=by
 intro l
 induction l with
 | nil=>exact fun _=>.nil
 | cons a l ih =>
  intro h;rw [List.nodup_cons];refine ⟨fun hm=>?_,ih fun A x B C e=>h (a::A) x B C (by rw [e]; rfl)⟩
  obtain ⟨B,C,e⟩:=List.append_of_mem hm;exact h [] a B C (by rw [e]; rfl)
theorem Flat.vN {A B:List Q2} (h:Flat (A++B)):Flat (B++A):=h.mono fun v hv=>by
 rcases List.mem_append.1 hv with h | h
 ·exact List.mem_append_right _ h
 ·exact List.mem_append_left _ h
theorem LF {P:List Q2} (hT:bO P) (hF:¬ Flat P) (aN:∀ e∈bf P,e.1≠e.2):P.Nodup:=by
 refine Wf fun A h B C e=>?_
 subst e;have tC:bO (h::B++h::(C++A)):=by
  have:=bO.vN (A:=A) (B:=h::B++h::C) (by simpa using hT)
  simpa using this
 have DV:¬ Flat (h::B++h::(C++A)):=fun J=>hF (by
  have:=Flat.vN (A:=h::B++h::C) (B:=A) (by simpa using J)
  simpa using this)
 have zV:∀ e∈bf (h::B++h::(C++A)),e.1≠e.2:=fun e he=>aN e (by
  have:=BD (A:=h::B++h::C) (B:=A) (e:=e) (by simpa using he)
  simpa using this)
 generalize C++A=D at tC DV zV;cases B with
 | nil=>exact zV (h,h) (by rw [show h::([]:List Q2)++h::D=h::h::D from rfl,we]; exact List.mem_cons_self ..) rfl
 | cons q B =>
  cases D with
  | nil =>
   refine zV (h,h) ?_ rfl;show (h,h)∈cI ((h::q::B++[h])++[h])
   rw [List.append_assoc];show (h,h)∈cI (h::q::B++h::[h])
   rw [wc];exact List.mem_append_right _ (List.mem_cons_self ..)
  | cons r D =>
   have e1:(h,q)∈bf (h::(q::B)++h::r::D):=by
    show (h,q)∈cI (h::q::(B++h::r::D++[h]))
    exact List.mem_cons_self ..
   have e2:(h,r)∈bf (h::(q::B)++h::r::D):=by
    show (h,r)∈cI ((h::(q::B)++h::r::D)++[h])
    rw [List.append_assoc];show (h,r)∈cI (h::(q::B)++h::(r::D++[h]))
    rw [wc];exact List.mem_append_right _ (List.mem_cons_self ..)
   have hq:h≠q:=zV _ e1;have hr:h≠r:=zV _ e2;have hD:∀ z∈r::D,aB h q z=0:=fun z hz=>by
    have a:=pX tC e1 (z:=z) (List.mem_append_right _ (List.mem_cons_of_mem _ hz));have hl:bO (q::B++h::r::D):=tC.2;have:=bO.mid (A:=B) (B:=r::D) (x:=z) (v:=q) (w:=h);have hb:=bO.back (A:=B) (B:=r::D) (x:=z) (v:=q) (w:=h) hl (by
     show z∈h::(r::D)++[q]
     exact List.mem_append_left _ (List.mem_cons_of_mem _ hz))
    have:aB q h z=-aB h q z:=by rw [fR,fR]; grind
    grind
   have hB:∀ z∈q::B,aB h r z=0:=fun z hz=>by
    have a:=pX tC e2 (z:=z) (List.mem_append_left _ (List.mem_cons_of_mem _ hz));have hl:List.Pairwise (fun b c=>0≤aB h b c) (q::B++h::r::D):=tC.1
    rw [List.pairwise_append] at hl;have:=hl.2.2 z hz r (List.mem_cons_of_mem _ (List.mem_cons_self ..));rw [yG] at this;grind
   refine DV ⟨pO h q,GK hq,fun v hv=>?_⟩
   rw [oZ];have JB:=hB q (List.mem_cons_self ..);rcases List.mem_append.1 hv with hv | hv
   ·rcases List.mem_cons.1 hv with rfl | hv
    ·exact sj _ _
    ·have Jp:=hB v hv;rw [fR] at Jp JB ⊢;have Is:r.1 - h.1≠0∨r.2 - h.2≠0:=by
      by_cases x:r.1 - h.1=0
      ·right; exact fun y=>hr (Prod.ext (by grind) (by grind))
      ·exact .inl x
     rcases Is with x | x
     ·have:(r.1 - h.1)*((q.1 - h.1)*(v.2 - h.2) - (q.2 - h.2)*(v.1 - h.1))=0:=by grind
      exact (Rat.mul_eq_zero.1 this).resolve_left x
     ·have:(r.2 - h.2)*((q.1 - h.1)*(v.2 - h.2) - (q.2 - h.2)*(v.1 - h.1))=0:=by grind
      exact (Rat.mul_eq_zero.1 this).resolve_left x
   ·rcases List.mem_cons.1 hv with rfl | hv
    ·exact sj _ _
    ·exact hD v hv
theorem RY {α:Type} {R:α→α→Prop} (has:∀ a b,R a b→¬ R b a):∀ {l m:List α},l.Pairwise R→m.Pairwise R→(∀ x,x∈l↔x∈m)→l=m:=by
 intro l
 induction l with
 | nil =>
  intro m _ _ h;cases m with
  | nil=>rfl
  | cons b m=>have:=(h b).2 (List.mem_cons_self ..); cases this
 | cons a l ih =>
  intro m hl hm h;cases m with
  | nil=>have:=(h a).1 (List.mem_cons_self ..); cases this
  | cons b m =>
   rw [List.pairwise_cons] at hl hm;have Q7:∀ x,¬ R x x:=fun x hx=>has x x hx hx
   have eZ:a=b:=by
    rcases List.mem_cons.1 ((h a).1 (List.mem_cons_self ..)) with e | e
    ·exact e
    ·rcases List.mem_cons.1 ((h b).2 (List.mem_cons_self ..)) with e2 | e2
     ·exact e2.symm
     ·exact absurd (hl.1 b e2) (has _ _ (hm.1 a e))
   subst eZ;rw [ih hl.2 hm.2 fun x=>⟨fun hx=>?_,fun hx=>?_⟩]
   ·rcases List.mem_cons.1 ((h x).1 (List.mem_cons_of_mem _ hx)) with e | e
    ·subst e; exact absurd (hl.1 _ hx) (Q7 _)
    ·exact e
   ·rcases List.mem_cons.1 ((h x).2 (List.mem_cons_of_mem _ hx)) with e | e
    ·subst e; exact absurd (hm.1 _ hx) (Q7 _)
    ·exact e
theorem A3 {P:List Q2} {a b c:Q2} (ha:gr P a) (hb:gr P b) (hc:gr P c) (eZ:a≠b) (AD:a≠c) (pH:b≠c):aB a b c≠0:=fun h=>by
 obtain ⟨s,Q6,pK⟩:∃ s:Rat,c.1 - a.1=s*(b.1 - a.1)∧c.2 - a.2=s*(b.2 - a.2):=by
  rw [fR] at h;by_cases hx:b.1 - a.1=0
  ·have hy:b.2 - a.2≠0:=fun hy=>eZ (Prod.ext (by grind) (by grind))
   refine ⟨(c.2 - a.2) / (b.2 - a.2),?_,?_⟩
   ·rw [hx] at h ⊢;have:(b.2 - a.2)*(c.1 - a.1)=0:=by grind
    have:=(Rat.mul_eq_zero.1 this).resolve_left hy;grind
   ·rw [Rat.div_def]; grind
  ·refine ⟨(c.1 - a.1) / (b.1 - a.1),?_,?_⟩
   ·rw [Rat.div_def]; grind
   ·rw [Rat.div_def];have h0:(b.1 - a.1)*((c.2 - a.2) - ((c.1 - a.1)*(b.1 - a.1)⁻¹*(b.2 - a.2)))=0:=by grind
    have:=(Rat.mul_eq_zero.1 h0).resolve_left hx;grind
 have h0:s≠0:=fun e=>by subst e; exact AD (Prod.ext (by grind) (by grind))
 have h1:s≠1:=fun e=>by subst e; exact pH (Prod.ext (by grind) (by grind))
 have inv:∀ x:Rat,0 < x→0 < x⁻¹∧x⁻¹*x=1:=fun x hx=>by
  have e:x⁻¹*x=1:=by grind
  refine ⟨?_,e⟩;by_cases h1:0 < x⁻¹
  ·exact h1
  ·have:=Rat.mul_nonneg (show 0≤-x⁻¹ by grind) (show 0≤x by grind)
   grind
 rcases Q5 s with h | h | h
 ·-- a lies between c and b
  obtain ⟨i0,i1⟩:=inv (1 - s) (by grind)
  refine ha.Bj hc.1 hb.1 (Ne.symm AD) (Ne.symm eZ) (t:=(-s)*(1 - s)⁻¹) (Rat.mul_pos (by grind) i0) ?_ ?_
  ·grind
  ·unfold atR; exact Prod.ext (by grind) (by grind)
 ·exact h0 h
 ·by_cases J:s < 1
  ·-- c lies between a and b
   refine hc.Bj ha.1 hb.1 AD pH h J ?_;unfold atR; exact Prod.ext (by grind) (by grind)
  ·obtain ⟨i0,i1⟩:=inv s h;refine hb.Bj ha.1 hc.1 eZ (Ne.symm pH) (t:=s⁻¹) i0 ?_ ?_
   ·have:=Rat.mul_pos i0 (show 0 < s - 1 by grind); grind
   ·unfold atR; exact Prod.ext (by grind) (by grind)
theorem SM {P:List Q2} {h:Q2} {A B:List Q2} (hA:bO (h::A)) (hB:bO (h::B)) (nA:(h::A).Nodup) (nB:(h::B).Nodup) (eA:∀ v,v∈h::A↔gr P v) (eB:∀ v,v∈h::B↔gr P v):A=B:=by
 have key:∀ {A:List Q2},bO (h::A)→(h::A).Nodup→(∀ v,v∈h::A↔gr P v)→A.Pairwise (fun a b=>0 < aB h a b):=by
  intro A hA nA eA;rw [List.nodup_cons] at nA;have h1:List.Pairwise (fun a b=>0≤aB h a b) A:=hA.1
  have J:List.Pairwise (fun a b=>a≠b) A:=nA.2
  have h3:=List.Pairwise.and_mem.1 (h1.and J);refine h3.imp fun {a b} ⟨ha,hb,h4,h5⟩=>?_
  have:=A3 ((eA h).1 (List.mem_cons_self ..)) ((eA a).1 (List.mem_cons_of_mem _ ha)) ((eA b).1 (List.mem_cons_of_mem _ hb)) (fun e=>nA.1 (e ▸ ha)) (fun e=>nA.1 (e ▸ hb)) h5
  grind
 rw [List.nodup_cons] at nA nB;refine RY (R:=fun a b=>0 < aB h a b) (fun a b x y=>by rw [yG] at y; grind) (key hA (List.nodup_cons.2 nA) eA) (key hB (List.nodup_cons.2 nB) eB) fun x=>?_
 constructor
 ·intro hx;have:=(eB x).2 ((eA x).1 (List.mem_cons_of_mem _ hx));rcases List.mem_cons.1 this with e | e
  ·subst e; exact absurd hx nA.1
  ·exact e
 ·intro hx;have:=(eA x).2 ((eB x).1 (List.mem_cons_of_mem _ hx));rcases List.mem_cons.1 this with e | e
  ·subst e; exact absurd hx nB.1
  ·exact e
open Go
def aF (l:List Q2) (k:Nat):Q2:=l.getD k (0,0)
theorem gN {l:List Q2} {k:Nat} (h:k < l.length):l[k]?=some (aF l k):=by
 unfold aF; rw [List.getD_eq_getElem?_getD,List.getElem?_eq_getElem h]; rfl
theorem sD {l:List Q2} {k:Nat} {p:Q2} (h:l[k]?=some p):aF l k=p:=by
 unfold aF; rw [List.getD_eq_getElem?_getD,h]; rfl
theorem fA {l:List Q2} {k:Nat} (h:k < l.length):aF l k∈l:=List.mem_of_getElem? (gN h)
theorem wU {l:List Q2} {v:Q2} (h:v∈l):∃ k,k < l.length∧aF l k=v:=by
 obtain ⟨k,hk,rfl⟩:=List.getElem_of_mem h;exact ⟨k,hk,sD (List.getElem?_eq_getElem hk)⟩
def aZ (n k:Nat):Nat:=(k+1) % n
def dZ (n k:Nat):Nat:=(k+n - 1) % n
theorem cJ {n k:Nat} (h:k < n):aZ n k < n:=Nat.mod_lt _ (by omega)
theorem jT {n k:Nat} (h:k < n):dZ n k < n:=Nat.mod_lt _ (by omega)
theorem GL {n k:Nat} (h:k < n):aZ n (dZ n k)=k:=by
 unfold aZ dZ;rw [Nat.mod_add_mod,show k+n - 1+1=k+n by omega,Nat.add_mod_right,Nat.mod_eq_of_lt h]
theorem GM {n k:Nat} (h:k < n):dZ n (aZ n k)=k:=by
 unfold aZ dZ;rcases Nat.lt_or_eq_of_le (show k+1≤n from h) with h1 | h1
 ·rw [Nat.mod_eq_of_lt h1,show k+1+n - 1=k+n by omega,Nat.add_mod_right,Nat.mod_eq_of_lt h]
 ·rw [h1,Nat.mod_self,show 0+n - 1=k by omega,Nat.mod_eq_of_lt h]
theorem xf {n k:Nat} (h:k < n) (hn:1 < n):aZ n k≠k:=fun e=>by
 unfold aZ at e;rcases Nat.lt_or_eq_of_le (show k+1≤n from h) with h1 | h1
 ·rw [Nat.mod_eq_of_lt h1] at e; omega
 ·rw [h1,Nat.mod_self] at e; omega
theorem OK {n k:Nat} (h:k < n) (hn:1 < n):dZ n k≠k:=fun e=>by
 have h1:=GL h;rw [e] at h1;exact xf h hn h1
theorem nq {l:List Q2} {k:Nat} (h:k < l.length):(aF l k,aF l (aZ l.length k))∈bf l:=List.mem_of_getElem? (oV (gN h) (gN (cJ h)))
theorem rX {l:List Q2} {k:Nat} (h:k < l.length):(aF l (dZ l.length k),aF l k)∈bf l:=by
 have:=nq (l:=l) (jT h)
 rwa [GL h] at this
theorem F7 {l:List Q2} {e:Q2 × Q2} (h:e∈bf l):∃ k,k < l.length∧e=(aF l k,aF l (aZ l.length k)):=by
 obtain ⟨i,hi,rfl⟩:=List.getElem_of_mem h;have aS:i < l.length:=by rwa [kP] at hi
 refine ⟨i,aS,?_⟩;have:=oV (gN aS) (gN (cJ aS));rw [List.getElem?_eq_getElem hi] at this;exact Option.some.inj this
def nd (l:List Q2) (k:Nat):Prop:=1 < l.length∧(aF l k=aF l (aZ l.length k)∨2 < l.length∧aB (aF l (dZ l.length k)) (aF l k) (aF l (aZ l.length k))=0)
instance (l:List Q2) (k:Nat):Decidable (nd l k):=inferInstanceAs (Decidable (_∧_))
def lN (l:List Q2):Option Nat:=(List.range l.length).find? fun k=>decide (nd l k)
def Hj:Nat→List Q2→List Q2
 | 0,l=>l
 | n+1,l=>match lN l with | none=>l | some k=>Hj n (l.eraseIdx k)
def fV (l:List Q2):List Q2:=Hj l.length l
theorem Si {l:List Q2} (h:∀ k,k < l.length→¬ nd l k):lN l=none:=by
 unfold lN;rw [List.find?_eq_none];intro k hk
 simpa using h k (List.mem_range.1 hk)
theorem RZ {l:List Q2} (h:lN l=none):∀ k,k < l.length→¬ nd l k:=fun k hk=>by
 unfold lN at h;rw [List.find?_eq_none] at h
 simpa using h k (List.mem_range.2 hk)
theorem Ew {l:List Q2} {k:Nat} (h:lN l=some k):k < l.length∧nd l k:=by
 unfold lN at h;rw [List.find?_range_eq_some] at h;exact ⟨List.mem_range.1 h.2.1,by simpa using h.1⟩
theorem EN {l:List Q2} (h:lN l=none):fV l=l:=by
 unfold fV;cases l with
 | nil=>rfl
 | cons a l=>show (match lN (a::l) with | none=>_ | some k=>_)=_; rw [h]
theorem EO {l:List Q2} {k:Nat} (h:lN l=some k):fV l=fV (l.eraseIdx k):=by
 have hk:=(Ew h).1;unfold fV;rw [List.length_eraseIdx_of_lt hk];obtain ⟨n,hn⟩:∃ n,l.length=n+1:=⟨l.length - 1,by omega⟩
 rw [hn];show (match lN l with | none=>l | some k=>Hj n (l.eraseIdx k))=_
 rw [h]; rfl
theorem FA {C:List Q2→Prop} (hs:∀ l k,lN l=some k→C (l.eraseIdx k)→C l) (h0:∀ l,lN l=none→C l):∀ (n:Nat) (l:List Q2),l.length=n→C l:=by
 intro n
 induction n with
 | zero=>intro l hl; exact h0 l (Si fun k hk=>by omega)
 | succ n ih =>
  intro l hl;cases e:lN l with
  | none=>exact h0 l e
  | some k=>exact hs l k e (ih _ (by rw [List.length_eraseIdx_of_lt (Ew e).1]; omega))
theorem FB (l:List Q2):(fV l).Sublist l :=
 FA (C:=fun l=>(fV l).Sublist l) (fun l k h hc=>by rw [EO h]; exact hc.trans (List.eraseIdx_sublist ..)) (fun l h=>by rw [EN h]; exact List.Sublist.refl _) _ l rfl
theorem Nb (l:List Q2):∀ k,k < (fV l).length→¬ nd (fV l) k :=
 FA (C:=fun l=>∀ k,k < (fV l).length→¬ nd (fV l) k) (fun l k h hc=>by rw [EO h]; exact hc) (fun l h=>by rw [EN h]; exact RZ h) _ l rfl
theorem mem_erase {l:List Q2} {k j:Nat} (hj:j < l.length) (h:j≠k):aF l j∈l.eraseIdx k:=by
 rw [List.mem_eraseIdx_iff_getElem?];exact ⟨j,h,gN hj⟩
theorem TG {l:List Q2} {k:Nat} {v:Q2} (h:v∈l):v∈l.eraseIdx k∨(k < l.length∧v=aF l k):=by
 obtain ⟨j,hj,rfl⟩:=wU h;by_cases e:j=k
 ·subst e; exact .inr ⟨hj,rfl⟩
 ·exact .inl (mem_erase hj e)
theorem F8 {f:Q3} {a b:Q2} {t:Rat} (ha:bg f a=0) (hb:bg f b=0):bg f (atR a b t)=0:=by rw [BV,ha,hb]; grind
theorem TH {l:List Q2} {k:Nat} (hT:bO l) (hF:¬ Flat l) (hk:k < l.length) (h:nd l k):iQ (l.eraseIdx k) l∧¬ Flat (l.eraseIdx k):=by
 obtain ⟨h1,J⟩:=h;have key:∀ (P:Q2→Prop),(∀ v∈l.eraseIdx k,P v)→(∀ a b t,P a→P b→0 < t→t < 1→P (atR a b t))→∀ v∈l,P v:=by
  intro P hP hm v hv;rcases TG (k:=k) hv with h | ⟨_,rfl⟩
  ·exact hP v h
  ·by_cases e1:aF l k=aF l (aZ l.length k)
   ·rw [e1]; exact hP _ (mem_erase (cJ hk) (xf hk h1))
   ·by_cases e2:aF l (dZ l.length k)=aF l k
    ·rw [← e2]; exact hP _ (mem_erase (jT hk) (OK hk h1))
    ·rcases J with J | ⟨J,h3⟩
     ·exact absurd J e1
     ·obtain ⟨t,t0,t1,ht⟩:=LD hT hF (rX hk) (nq hk) e2 e1 h3;rw [ht];exact hm _ _ _ (hP _ (mem_erase (jT hk) (OK hk h1))) (hP _ (mem_erase (cJ hk) (xf hk h1))) t0 t1
 refine ⟨fun p=>⟨fun hp=>hp.mono fun v hv=>(List.eraseIdx_sublist ..).subset hv,fun hp=>hp.trans ?_⟩,fun ⟨f,hf,hz⟩=>hF ⟨f,hf,?_⟩⟩
 ·exact key _ (fun v hv=>.o8 hv) fun a b t ha hb t0 t1=>ha.at hb (by grind) (by grind)
 ·exact key _ hz fun a b t ha hb _ _=>F8 ha hb
theorem E5 {l:List Q2} (hT:bO l) (hF:¬ Flat l):iQ (fV l) l∧¬ Flat (fV l) :=
 FA (C:=fun l=>bO l→¬ Flat l→iQ (fV l) l∧¬ Flat (fV l)) (fun l k h hc hT hF=>by
  rw [EO h];have J:=Ew h;obtain ⟨a,b⟩:=TH hT hF J.1 J.2;obtain ⟨c,d⟩:=hc (hT.sublist (List.eraseIdx_sublist ..)) b;exact ⟨c.trans a,d⟩) (fun l h hT hF=>by rw [EN h]; exact ⟨.rfl',hF⟩) _ l rfl hT hF
theorem Ch {P:List Q2} (h:Flat P) {a b c:Q2} (ha:a∈P) (hb:b∈P) (hc:c∈P):aB a b c=0:=by
 obtain ⟨f,hf,hz⟩:=h;have x:=hz a ha;have y:=hz b hb;have z:=hz c hc;rw [kS] at x y z;rw [fR];by_cases h0:f.1=0
 ·have h1:f.2.1≠0:=fun e=>hf ⟨h0,e⟩
  have e:f.2.1*((b.1 - a.1)*(c.2 - a.2) - (b.2 - a.2)*(c.1 - a.1))=0:=by grind
  exact (Rat.mul_eq_zero.1 e).resolve_left h1
 ·have e:f.1*((b.1 - a.1)*(c.2 - a.2) - (b.2 - a.2)*(c.1 - a.1))=0:=by grind
  exact (Rat.mul_eq_zero.1 e).resolve_left h0
theorem EC (a b:Q2):∃ f:Q3,mY f∧bg f a=0∧bg f b=0:=by
 by_cases h:a=b
 ·subst h;exact ⟨(1,0,a.1),fun h=>absurd (show (1:Rat)=0 from h.1) (by decide),by rw [kS]; grind,by rw [kS]; grind⟩
 ·exact ⟨pO a b,GK h,by rw [oZ,sj],by rw [oZ,p9]⟩
theorem TJ {P:List Q2} (h:P.length≤2):Flat P:=by
 match P,h with
 | [],_=>exact ⟨(1,0,0),fun h=>absurd h.1 (by decide),fun v hv=>by cases hv⟩
 | [a],_ =>
  obtain ⟨f,hf,h1,_⟩:=EC a a;exact ⟨f,hf,fun v hv=>by simp at hv; rw [hv]; exact h1⟩
 | [a,b],_ =>
  obtain ⟨f,hf,h1,J⟩:=EC a b;exact ⟨f,hf,fun v hv=>by simp at hv; rcases hv with rfl | rfl <;> assumption⟩
 | _::_::_::_,h=>simp at h
theorem TL {l:List Q2} (hF:Flat l):(fV l).length≤2:=by
 refine Decidable.byContradiction fun h=>?_
 have h0:=Nb l 0 (by omega)
 refine h0 ⟨by omega,.inr ⟨by omega,?_⟩⟩
 have DV:Flat (fV l):=hF.mono fun v hv=>(FB l).subset hv
 exact Ch DV (fA (jT (by omega))) (fA (by omega)) (fA (cJ (by omega)))
structure Ring (P:List Q2):Prop where
 fZ:bO P
 three:3≤P.length
 xg:∀ k,k < P.length→0 < aB (aF P (dZ P.length k)) (aF P k) (aF P (aZ P.length k))
theorem Ring.ne {P:List Q2} (h:Ring P):∀ e∈bf P,e.1≠e.2:=fun e he=>by
 obtain ⟨k,hk,rfl⟩:=F7 he;intro e2;have:=h.xg k hk;simp only at e2;rw [e2,p9] at this;grind
theorem Ring.ext {P:List Q2} (h:Ring P) {v:Q2}:v∈P↔gr P v:=by
 refine ⟨fun hv=>?_,gr.mem⟩
 obtain ⟨k,hk,rfl⟩:=wU hv;have:=h.xg k hk;exact LC h.fZ (rX hk) (nq hk) (by grind)
theorem Ring.acI {P:List Q2} (h:Ring P):¬ Flat P:=fun hF=>by
 have hk:0 < P.length:=by have:=h.three; omega
 have:=h.xg 0 hk;rw [Ch hF (fA (jT hk)) (fA hk) (fA (cJ hk))] at this;grind
theorem Ring.nodup {P:List Q2} (h:Ring P):P.Nodup:=LF h.fZ h.acI h.ne
theorem Xt {P:List Q2} (hT:bO P) (hF:¬ Flat P) (hn:∀ k,k < P.length→¬ nd P k):Ring P:=by
 have h3:3≤P.length:=Decidable.byContradiction fun h=>hF (TJ (by omega))
 refine ⟨hT,h3,fun k hk=>?_⟩
 have a:=pX hT (rX hk) (fA (cJ hk));have b:aB (aF P (dZ P.length k)) (aF P k) (aF P (aZ P.length k))≠0:=fun e=>hn k hk ⟨by omega,.inr ⟨by omega,e⟩⟩
 grind
theorem LG {l:List Q2} (hT:bO l) (hF:¬ Flat l):Ring (fV l):=Xt (hT.sublist (FB l)) (E5 hT hF).2 (Nb l)
def jv (l:List Q2):Nat→Nat
 | 0=>0
 | i+1=>if dV (aF l i) (aF l (jv l i)) < 0 then i else jv l i
def qA (l:List Q2):Nat:=jv l l.length
def fc (l:List Q2):List Q2:=l.drop (qA l)++l.take (qA l)
def iK (a b:Q2):Prop:=a.1 < b.1∨a.1=b.1∧a.2≤b.2
theorem ur {a b:Q2}:iK a b↔¬ dV b a < 0:=by
 unfold iK dV;rcases Br (b.1 - a.1) with ⟨h1,J⟩ | ⟨h1,J⟩ | ⟨h1,J⟩
 ·rw [F6 b.1 a.1,J];constructor
  ·rintro (h | ⟨h,_⟩) <;> grind
  ·intro h; exact absurd (by rw [if_pos (by decide)]; decide) h
 ·rw [F6 b.1 a.1,J,if_neg (by decide),F4]
  constructor
  ·rintro (h | ⟨h,h3⟩) <;> grind
  ·intro h; right; exact ⟨by grind,by grind⟩
 ·rw [F6 b.1 a.1,J];constructor
  ·intro _; rw [if_pos (by decide)]; decide
  ·intro _; left; grind
theorem UU {a b c:Q2} (h:iK a b) (g:iK b c):iK a c:=by unfold iK at *; grind
theorem Nc {a b:Q2} (h:iK a b) (g:iK b a):a=b:=by
 unfold iK at *;exact Prod.ext (by grind) (by grind)
theorem Wg (a:Q2):iK a a:=by unfold iK; right; exact ⟨rfl,by grind⟩
theorem UW {a b:Q2} (h:¬ iK a b):iK b a:=by unfold iK at *; grind
theorem ED (l:List Q2):∀ i,i≤l.length→(0 < l.length→jv l i < l.length)∧(∀ j,j < i→iK (aF l (jv l i)) (aF l j)):=by
 intro i
 induction i with
 | zero=>intro _; exact ⟨fun h=>h,fun j hj=>absurd hj (Nat.not_lt_zero _)⟩
 | succ i ih =>
  intro hi;obtain ⟨h1,J⟩:=ih (by omega)
  unfold jv
  split
  ·rename_i hc;have hle:iK (aF l i) (aF l (jv l i)):=UW fun h=>(ur.1 h) hc
   refine ⟨fun _=>by omega,fun j hj=>?_⟩
   rcases Nat.lt_or_eq_of_le (Nat.le_of_lt_succ hj) with h | h
   ·exact UU hle (J j h)
   ·subst h; exact Wg _
  ·rename_i hc;refine ⟨h1,fun j hj=>?_⟩
   rcases Nat.lt_or_eq_of_le (Nat.le_of_lt_succ hj) with h | h
   ·exact J j h
   ·subst h; exact ur.2 hc
theorem uf {l:List Q2} {v:Q2}:v∈fc l↔v∈l:=by
 unfold fc;rw [List.mem_append];constructor
 ·rintro (h | h)
  ·exact List.mem_of_mem_drop h
  ·exact List.mem_of_mem_take h
 ·intro h;rw [← List.take_append_drop (qA l) l,List.mem_append] at h;exact h.symm
theorem yi (l:List Q2):(fc l).length=l.length:=by
 unfold fc;rw [List.length_append,List.length_drop,List.length_take]; omega
theorem FC {l:List Q2} (h:bO l):bO (fc l):=bO.vN (by rw [List.take_append_drop]; exact h)
theorem E6 {l:List Q2} (h:l.Nodup):(fc l).Nodup:=by
 have hp:(fc l).Perm l:=by
  unfold fc;refine List.perm_append_comm.trans ?_;rw [List.take_append_drop]
 exact hp.nodup_iff.2 h
theorem FD {l:List Q2} (h:l≠[]):∃ a A,fc l=a::A∧∀ v∈l,iK a v:=by
 have hl:0 < l.length:=List.length_pos_iff.2 h;have hs:=ED l l.length (Nat.le_refl _);refine ⟨aF l (qA l),l.drop (qA l+1)++l.take (qA l),?_,fun v hv=>?_⟩
 ·unfold fc;have ak:qA l < l.length:=hs.1 hl;rw [List.drop_eq_getElem_cons ak];have:l[qA l]'ak=aF l (qA l):=by
   have:=gN ak;rw [List.getElem?_eq_getElem ak] at this;exact Option.some.inj this
  rw [List.cons_append,this]
 ·obtain ⟨j,hj,rfl⟩:=wU hv;exact hs.2 j hj
theorem Sj {P A B:List Q2} (hA:bO A) (hB:bO B) (nA:A.Nodup) (nB:B.Nodup) (eA:∀ v,v∈A↔gr P v) (eB:∀ v,v∈B↔gr P v):fc A=fc B:=by
 by_cases x4:A=[]
 ·subst x4;have:B=[]:=by
   cases B with
   | nil=>rfl
   | cons b B=>have:=(eA b).2 ((eB b).1 (List.mem_cons_self ..)); cases this
  rw [this]
 ·have hB0:B≠[]:=fun e=>by
   subst e;cases A with
   | nil=>exact x4 rfl
   | cons b B=>have:=(eB b).2 ((eA b).1 (List.mem_cons_self ..)); cases this
  obtain ⟨a,A',ha,la⟩:=FD x4;obtain ⟨b,B',hb,lb⟩:=FD hB0;have ha':a∈A:=uf.1 (by rw [ha]; exact List.mem_cons_self ..)
  have bE:b∈B:=uf.1 (by rw [hb]; exact List.mem_cons_self ..)
  have eZ:a=b:=Nc (la b ((eA b).2 ((eB b).1 bE))) (lb a ((eB a).2 ((eA a).1 ha')));subst eZ;rw [ha,hb]
  congr 1
  refine SM (P:=P) (h:=a) (by rw [← ha]; exact FC hA) (by rw [← hb]; exact FC hB) (by rw [← ha]; exact E6 nA) (by rw [← hb]; exact E6 nB) (fun v=>?_) (fun v=>?_)
  ·rw [← ha,uf]; exact eA v
  ·rw [← hb,uf]; exact eB v
theorem gr.iff {P Q:List Q2} (h:iQ P Q) (v:Q2):gr P v↔gr Q v:=⟨fun x=>x.same h,fun x=>x.same h.symm⟩
open Go
theorem n7 {a b:Q2}:dV a b=0↔a=b:=UP.trans ⟨fun h=>Prod.ext h.1 h.2,fun h=>by rw [h]; exact ⟨rfl,rfl⟩⟩
def kX (e:Q2 × Q2):List Q2:=if dV e.1 e.2≠0 then [e.1] else []
def gC (l:List Q2):List Q2:=(bf l).flatMap kX
def kY (l:List Q2) (i:Nat):List Q2:=if aB (aF l (dZ l.length i)) (aF l i) (aF l (aZ l.length i))≠0 then [aF l i] else []
def js (l:List Q2):List Q2:=(List.range l.length).flatMap (kY l)
def cV (l:List Q2):List Q2:=if (js (gC l)).length < 3 then [] else fc (js (gC l))
theorem EP {α β:Type} (g:α→β) (f:α→List β) (h:∀ a,(f a).Sublist [g a]):∀ l:List α,(l.flatMap f).Sublist (l.map g)
 | []=>.slnil
 | a::l=>by
  rw [List.flatMap_cons,List.map_cons];exact (h a).append (EP g f h l)
theorem UX {α:Type} (l:List α):(bf l).map Prod.fst=l:=by
 refine List.ext_getElem (by rw [List.length_map,kP]) fun i h1 J=>?_
 have h3:(i+1) % l.length < l.length:=Nat.mod_lt _ (by omega)
 have:=oV (List.getElem?_eq_getElem J) (List.getElem?_eq_getElem h3);rw [List.getElem_map];rw [List.length_map] at h1;rw [List.getElem?_eq_getElem h1] at this;rw [Option.some.inj this]
theorem tM (l:List Q2):(gC l).Sublist l:=by
 have:=EP Prod.fst kX (fun e=>by
  unfold kX
  split
  ·exact List.Sublist.refl _
  ·exact List.nil_sublist _) (bf l)
 rw [UX] at this;exact this
theorem Xu (l:List Q2):(List.range l.length).map (aF l)=l:=by
 refine List.ext_getElem (by simp) fun i h1 J=>?_
 simp;exact sD (List.getElem?_eq_getElem J)
theorem yj (l:List Q2):(js l).Sublist l:=by
 have:=EP (aF l) (kY l) (fun e=>by
  unfold kY
  split
  ·exact List.Sublist.refl _
  ·exact List.nil_sublist _) (List.range l.length)
 rw [Xu] at this;exact this
theorem Xv (z:Q2):∀ (L:List Q2) (a:Q2),(a::L).getLast?=some z→((cI (a::L)).flatMap kX++[z]).head?=some a∧∀ e∈cI ((cI (a::L)).flatMap kX++[z]),e.1≠e.2:=by
 intro L
 induction L with
 | nil =>
  intro a h;simp at h;subst h;exact ⟨rfl,fun e he=>by cases he⟩
 | cons b L ih =>
  intro a h;obtain ⟨h1,J⟩:=ih b (by rw [List.getLast?_cons_cons] at h; exact h)
  rw [mu,List.flatMap_cons,List.append_assoc];obtain ⟨X,hX⟩:∃ X,X=(cI (b::L)).flatMap kX++[z]:=⟨_,rfl⟩;rw [← hX] at h1 J ⊢;unfold kX;by_cases eZ:a=b
  ·rw [if_neg (by simp only [ne_eq]; exact fun h=>h (n7.2 eZ))]
   rw [eZ]; exact ⟨h1,J⟩
  ·rw [if_pos (fun h=>eZ (n7.1 h))]
   refine ⟨rfl,?_⟩;cases X with
   | nil=>simp at h1
   | cons c X =>
    simp at h1;subst h1;intro e he;rw [show [(a,c).1]++c::X=a::c::X from rfl,mu] at he
    rcases List.mem_cons.1 he with rfl | he
    ·exact eZ
    ·exact J e he
theorem K2 (l:List Q2):∀ e∈bf (gC l),e.1≠e.2:=by
 cases l with
 | nil=>intro e he; cases he
 | cons h B =>
  obtain ⟨h1,J⟩:=Xv h (B++[h]) h (by rw [← List.cons_append,List.getLast?_append]; rfl)
  have hd:gC (h::B)=(cI (h::(B++[h]))).flatMap kX:=rfl;rw [← hd] at h1 J;cases hD:gC (h::B) with
  | nil=>intro e he; cases he
  | cons d D =>
   rw [hD] at h1 J;simp at h1;subst h1;intro e he;exact J e he
theorem K3 {α:Type} {l m:List α} {e:α × α} (h:e∈cI l):e∈cI (l++m):=by
 obtain ⟨A,B,rfl⟩:=KI h;rw [List.append_assoc,List.cons_append,wc];exact List.mem_append_right _ (List.mem_cons_self ..)
theorem leave {v:Q2}:∀ (l:List Q2),(∃ w∈l,w≠v)→∃ y,(v,y)∈cI (v::l)∧v≠y:=by
 intro l
 induction l with
 | nil=>rintro ⟨w,hw,_⟩; cases hw
 | cons b l ih =>
  rintro ⟨w,hw,aN⟩
  by_cases hb:b=v
  ·subst hb;rcases List.mem_cons.1 hw with rfl | hw
   ·exact absurd rfl aN
   ·obtain ⟨y,h1,J⟩:=ih ⟨w,hw,aN⟩;exact ⟨y,List.mem_cons_of_mem _ h1,J⟩
  ·exact ⟨b,List.mem_cons_self ..,Ne.symm hb⟩
theorem KJ {l:List Q2} (hF:¬ Flat l) {v:Q2}:v∈gC l↔v∈l:=by
 refine ⟨fun h=>(tM l).subset h,fun h=>?_⟩
 obtain ⟨w,hw,aN⟩:∃ w∈l,w≠v:=by
  refine Decidable.byContradiction fun hn=>hF ?_
  obtain ⟨f,hf,h1,_⟩:=EC v v;exact ⟨f,hf,fun x hx=>by
   have:x=v:=Decidable.byContradiction fun h=>hn ⟨x,hx,h⟩
   rw [this]; exact h1⟩
 obtain ⟨A,B,rfl⟩:=List.append_of_mem h;obtain ⟨y,h1,J⟩:=leave (v:=v) (B++A) ⟨w,by
  rcases List.mem_append.1 hw with h | h
  ·exact List.mem_append_right _ h
  ·rcases List.mem_cons.1 h with h | h
   ·exact absurd h aN
   ·exact List.mem_append_left _ h,aN⟩
 have he:(v,y)∈bf (A++v::B):=BD (A:=v::B) (K3 (m:=[v]) h1);unfold gC;refine List.mem_flatMap.2 ⟨_,he,?_⟩;unfold kX;rw [if_pos (fun h=>J (n7.1 h))]
 exact List.mem_cons_self ..
theorem TM {D:List Q2} (hT:bO D) (hF:¬ Flat D) (aN:∀ e∈bf D,e.1≠e.2) (v:Q2):v∈js D↔gr D v:=by
 constructor
 ·intro h;unfold js at h;obtain ⟨i,hi,hv⟩:=List.mem_flatMap.1 h;have hi:=List.mem_range.1 hi;unfold kY at hv
  split at hv
  ·rename_i hc;simp at hv;rw [hv];exact LC hT (rX hi) (nq hi) hc
  ·cases hv
 ·intro h;obtain ⟨i,hi,rfl⟩:=wU h.mem;unfold js;refine List.mem_flatMap.2 ⟨i,List.mem_range.2 hi,?_⟩;unfold kY;by_cases hc:aB (aF D (dZ D.length i)) (aF D i) (aF D (aZ D.length i))=0
  ·have n1:=aN _ (rX hi);have n2:=aN _ (nq hi);obtain ⟨t,t0,t1,ht⟩:=LD hT hF (rX hi) (nq hi) n1 n2 hc;exact absurd ht (h.Bj (.o8 (fA (jT hi))) (.o8 (fA (cJ hi))) n1 (Ne.symm n2) t0 t1)
  ·rw [if_pos hc]; exact List.mem_cons_self ..
theorem Xw {P:List Q2} (hT:bO P) (hF:¬ Flat P):cV P=fc (fV P)∧3≤(fV P).length:=by
 have hr:=LG hT hF;have JE:bO (gC P):=hT.sublist (tM P);have DW:¬ Flat (gC P):=fun h=>hF (h.mono fun v hv=>(KJ hF).2 hv)
 have hs:iQ (gC P) P:=.o8 fun v=>KJ hF
 have kc:=LF JE DW (K2 P);have eC:∀ v,v∈js (gC P)↔gr P v:=fun v=>(TM JE DW (K2 P) v).trans (gr.iff hs v)
 have eR:∀ v,v∈fV P↔gr P v:=fun v=>hr.ext.trans (gr.iff (E5 hT hF).1 v)
 have he:=Sj (JE.sublist (yj _)) hr.fZ (kc.sublist (yj _)) hr.nodup eC eR;refine ⟨?_,hr.three⟩;unfold cV;have hl:=congrArg List.length he;rw [yi,yi] at hl;rw [if_neg (by have:=hr.three; omega),he]
theorem UY {P:List Q2} (hF:Flat P):cV P=[]∧(fV P).length < 3:=by
 refine ⟨?_,by have:=TL hF; omega⟩
 have DW:Flat (gC P):=hF.mono fun v hv=>(tM P).subset hv
 have:js (gC P)=[]:=by
  unfold js;rw [List.flatMap_eq_nil_iff];intro i hi;have hi:=List.mem_range.1 hi;unfold kY;rw [if_neg (by simp only [ne_eq]; exact fun h=>h (Ch DW (fA (jT hi)) (fA hi) (fA (cJ hi))))]
 unfold cV;rw [this,if_pos (by decide)]
abbrev Q4:=Q2 × Q2
def aej (b:Q4):List Q2:=[b.1,(b.2.1,b.1.2),b.2,(b.1.1,b.2.2)]
def okB (b:Q4):Prop:=b.1.1≤b.2.1∧b.1.2≤b.2.2
def P8 (b:Q4) (p:Q2):Prop:=b.1.1≤p.1∧p.1≤b.2.1∧b.1.2≤p.2∧p.2≤b.2.2
def HO (b:Q4) (l:List Q3):List Q2:=l.foldl (fun P m=>dg m P) (aej b)
open Go
def mZ (S:Q3→Prop) (e:Q2 × Q2):Prop:=∃ m,S m∧mY m∧bg m e.1=0∧bg m e.2=0
theorem aae {l m:Q3} {x:Q2} (hx:bg l x=0) (hy:bg m x=0) (h:qU l m≠0):x=Ix l m:=by
 unfold qU at h;have e:qU l m=oa (n3 l) (n3 m):=rfl;rw [show oa (n3 l) (n3 m)=l.1*m.2.1 - l.2.1*m.1 from rfl] at h e
 rw [kS] at hx hy;unfold Ix;rw [e];refine Prod.ext ?_ ?_
 ·show x.1=_
  rw [Rat.div_def]; grind
 ·show x.2=_
  rw [Rat.div_def]; grind
theorem aaf {l m:Q3} {a b:Q2} (hl:mY l) (ha:bg l a=0) (hb:bg l b=0) (h:bg m a≠bg m b):qU l m≠0:=fun e=>by
 rw [show qU l m=l.1*m.2.1 - l.2.1*m.1 from rfl] at e
 rw [kS] at ha hb;rw [kS,kS] at h;by_cases h0:l.1=0
 ·have h1:l.2.1≠0:=fun e=>hl ⟨h0,e⟩
  have:l.2.1*(m.1*a.1+m.2.1*a.2 - m.2.2 - (m.1*b.1+m.2.1*b.2 - m.2.2))=0:=by grind
  have:=(Rat.mul_eq_zero.1 this).resolve_left h1;exact h (by grind)
 ·have:l.1*(m.1*a.1+m.2.1*a.2 - m.2.2 - (m.1*b.1+m.2.1*b.2 - m.2.2))=0:=by grind
  have:=(Rat.mul_eq_zero.1 this).resolve_left h0;exact h (by grind)
def nM (m:Q3) (e:Q2 × Q2):List Q2:=mF m e.1++gV m e.1 e.2
theorem NZ (m:Q3) (l:List Q2):dg m l=(bf l).flatMap (nM m):=rfl
theorem F9 {m:Q3} {a:Q2} (h:0≤bg m a):mF m a=[a]:=by unfold mF; rw [if_pos (si.2 h)]
theorem Ga {m:Q3} {a:Q2} (h:bg m a < 0):mF m a=[]:=by unfold mF; rw [if_neg (fun J=>by have:=si.1 J; grind)]
theorem Gb {m:Q3} {a b:Q2} (h:¬ ((0 < bg m a∧bg m b < 0)∨(bg m a < 0∧0 < bg m b))):gV m a b=[]:=by unfold gV; rw [if_neg (fun J=>h (BE.1 J))]
theorem yk {S:Q2 × Q2→Prop} {a:Q2} {X:List Q2} (h:∀ x,X.head?=some x→S (a,x)) (hX:∀ e∈cI X,S e):∀ e∈cI (a::X),S e:=by
 cases X with
 | nil=>intro e he; cases he
 | cons x X =>
  intro e he;rw [mu] at he;rcases List.mem_cons.1 he with rfl | he
  ·exact h x rfl
  ·exact hX e he
theorem Wh {S:Q3→Prop} {m:Q3} (hS:S m) (hm:mY m) (z:Q2):∀ (L:List Q2) (a:Q2),(a::L).getLast?=some z→(∀ e∈cI (a::L),mZ S e) →
  ∃ X,(cI (a::L)).flatMap (nM m)++mF m z=X∧(∀ e∈cI X,mZ S e)∧(0≤bg m a→X.head?=some a)∧(bg m a < 0→∀ x,X.head?=some x→bg m x=0)∧(bg m z < 0→∀ x,X.getLast?=some x→bg m x=0):=by
 intro L
 induction L with
 | nil =>
  intro a hz DX;simp at hz;subst hz;by_cases ha:0≤bg m a
  ·refine ⟨[a],by rw [F9 ha]; rfl,(fun e he=>by cases he),fun _=>rfl,fun h=>absurd ha (by grind),fun h=>absurd ha (by grind)⟩
  ·exact ⟨[],by rw [Ga (by grind)]; rfl,(fun e he=>by cases he),fun h=>absurd h ha,(fun h x hx=>by cases hx),(fun h x hx=>by cases hx)⟩
 | cons b L ih =>
  intro a hz DX;rw [mu] at DX;obtain ⟨X,hX,h1,J,h3,h4⟩:=ih b (by rw [List.getLast?_cons_cons] at hz; exact hz) fun e he=>DX e (List.mem_cons_of_mem _ he)
  obtain ⟨k,hk,JF,ka,kb⟩:=DX (a,b) (List.mem_cons_self ..);rw [mu,List.flatMap_cons,List.append_assoc,hX];show ∃ Y,(mF m a++gV m a b)++X=Y∧_
  have last:∀ Z:List Q2,X≠[]→∀ x,(Z++X).getLast?=some x→X.getLast?=some x:=fun Z aN x hx=>by
   rw [List.getLast?_append] at hx;cases e:X.getLast? with
   | none=>exact absurd (List.getLast?_eq_none_iff.1 e) aN
   | some y=>rw [e] at hx; exact hx
  by_cases ha:0≤bg m a
  ·rw [F9 ha];by_cases hb:0≤bg m b
   ·rw [Gb (by grind),List.append_nil]
    have hh:=J hb;refine ⟨a::X,rfl,yk (fun x hx=>?_) h1,fun _=>rfl,fun h=>absurd ha (by grind),fun h x hx=>h4 h x (last [a] (fun e=>by rw [e] at hh; cases hh) x hx)⟩
    rw [hh] at hx; cases hx;exact ⟨k,hk,JF,ka,kb⟩
   ·by_cases h0:bg m a=0
    ·rw [Gb (by grind),List.append_nil]
     refine ⟨a::X,rfl,yk (fun x hx=>⟨m,hS,hm,h0,h3 (by grind) x hx⟩) h1,fun _=>rfl,fun h=>absurd ha (by grind),fun h x hx=>?_⟩
     by_cases AE:X=[]
     ·subst AE; simp at hx; rw [← hx]; exact h0
     ·exact h4 h x (last [a] AE x hx)
    ·have hc:=Fy (m:=m) (p:=a) (q:=b) (.inl ⟨by grind,by grind⟩)
     have hs:=yh (x:=atR a b (jf m a b)) (by rw [hc]; simp)
     rw [hc];refine ⟨a::atR a b (jf m a b)::X,rfl,yk (fun x hx=>?_) (yk (fun x hx=>⟨m,hS,hm,hs.2.2.2.2,h3 (by grind) x hx⟩) h1),fun _=>rfl,fun h=>absurd ha (by grind),fun h x hx=>?_⟩
     ·simp at hx;rw [← hx];exact ⟨k,hk,JF,ka,F8 ka kb⟩
     ·by_cases AE:X=[]
      ·subst AE; simp at hx; rw [← hx]; exact hs.2.2.2.2
      ·exact h4 h x (last [a,atR a b (jf m a b)] AE x hx)
  ·rw [Ga (by grind),List.nil_append]
   by_cases hb:0 < bg m b
   ·have hc:=Fy (m:=m) (p:=a) (q:=b) (.inr ⟨by grind,by grind⟩)
    have hs:=yh (x:=atR a b (jf m a b)) (by rw [hc]; simp)
    have hh:=J (by grind)
    rw [hc];refine ⟨atR a b (jf m a b)::X,rfl,yk (fun x hx=>?_) h1,fun h=>absurd h ha,fun _ x hx=>?_,fun h x hx=>h4 h x (last [atR a b (jf m a b)] (fun e=>by rw [e] at hh; cases hh) x hx)⟩
    ·rw [hh] at hx; cases hx;exact ⟨k,hk,JF,F8 ka kb,kb⟩
    ·simp at hx; rw [← hx]; exact hs.2.2.2.2
   ·rw [Gb (by grind),List.nil_append]
    refine ⟨X,rfl,h1,fun h=>absurd h ha,fun _ x hx=>?_,h4⟩
    by_cases iu:bg m b=0
    ·have:=J (by grind)
     rw [this] at hx; cases hx; exact iu
    ·exact h3 (by grind) x hx
theorem aag {S:Q3→Prop} {m:Q3} {P:List Q2} (hS:S m) (hm:mY m) (h:∀ e∈bf P,mZ S e):∀ e∈bf (dg m P),mZ S e:=by
 cases P with
 | nil=>intro e he; cases he
 | cons p P =>
  obtain ⟨X,hX,h1,J,h3,h4⟩:=Wh hS hm p (P++[p]) p (by rw [← List.cons_append,List.getLast?_append]; rfl) h
  have hc:dg m (p::P)=(cI (p::(P++[p]))).flatMap (nM m):=rfl;rw [← hc] at hX;by_cases hp:0≤bg m p
  ·rw [F9 hp] at hX;have hh:=J hp;intro e he;cases hC:dg m (p::P) with
   | nil=>rw [hC] at he; cases he
   | cons c C =>
    rw [hC] at hX he;have:c=p:=by rw [← hX] at hh; simpa using hh
    rw [this] at hX he;rw [we,hX] at he;exact h1 e he
  ·rw [Ga (by grind),List.append_nil] at hX
   intro e he;cases hC:dg m (p::P) with
   | nil=>rw [hC] at he; cases he
   | cons c C =>
    rw [hC] at he hX;subst hX;rcases List.eq_nil_or_concat C with rfl | ⟨C,d,rfl⟩
    ·have ox:=h3 (by grind) c rfl
     rw [we] at he;rcases List.mem_cons.1 he with rfl | he
     ·exact ⟨m,hS,hm,ox,ox⟩
     ·cases he
    ·have ox:=h3 (by grind) c rfl
     have fL:=h4 (by grind) d (by rw [List.concat_eq_append,← List.cons_append,List.getLast?_append]; rfl)
     rw [List.concat_eq_append] at he h1;rw [we,show c::(C++[d])++[c]=(c::C)++d::[c] by simp,wc] at he
     rcases List.mem_append.1 he with he | he
     ·exact h1 e (by rw [← List.cons_append]; exact he)
     ·rcases List.mem_cons.1 he with rfl | he
      ·exact ⟨m,hS,hm,fL,ox⟩
      ·cases he
theorem qb0 {k:Nat} (h:1≤k):QB 0 k:=(zg (n:=0) (by decide)).mono h
theorem qb1 {k:Nat} (h:1≤k):QB 1 k:=(zg (n:=1) (by decide)).mono h
open Go
def aQ (L:List Q2):List PV:=L.map cA
def aX (L:List Q2):Nat→List Value:=bF (aQ L)
theorem oR (L:List Q2):(aQ L).length=L.length:=List.length_map ..
theorem aah {L:List Q2} {k:Nat} (h:k < L.length):(aQ L)[k]?=some (cA (aF L k)):=by
 unfold aQ;rw [List.getElem?_map,gN h]; rfl
theorem Wi {L:List Q2} {k:Nat} (h:k < L.length):aX L k=(cA (aF L k)).cells:=by
 unfold aX bF;rw [List.getD_eq_getElem?_getD,aah h]; rfl
theorem gi {L:List Q2} {m k:Nat} (h:k < L.length) (hs:∀ v∈L,Q2.sz m v):∃ u:PV,u=cA (aF L k)∧aX L k=u.cells∧u.p=aF L k∧u.sz m∧Q2.sz m u.p :=
 ⟨_,rfl,Wi h,gF _,sC (hs _ (fA h)) (Nat.le_refl _),by rw [gF]; exact hs _ (fA h)⟩
theorem Xx {a b:Q2} (h:cA a=cA b):a=b:=by rw [← gF a,← gF b,h]
theorem Xy {u v:PV} {a b:Q2} (hu:u=cA a) (hv:v=cA b):u=v↔a=b:=by
 subst hu; subst hv;exact ⟨Xx,fun h=>by rw [h]⟩
theorem jm {k n:Nat} (hk:k < n) (hn:n≤1099511627776):Int.tmod (IntKind.i64.wrap ((k:Int)+1)) (n:Int)=(aZ n k:Int):=by
 rw [ay (by omega) (by omega)]
 show Int.tmod ((k+1:Nat):Int) (n:Int)=(((k+1) % n:Nat):Int)
 rfl
theorem zG {k n:Nat} (hk:k < n) (hn:n≤1099511627776):Int.tmod (IntKind.i64.wrap (IntKind.i64.wrap ((k:Int)+(n:Int)) - 1)) (n:Int)=(dZ n k:Int):=by
 rw [ay (x:=(k:Int)+n) (by omega) (by omega),ay (by omega) (by omega)]
 have:(k:Int)+n - 1=((k+n - 1:Nat):Int):=by omega
 rw [this]
 rfl
theorem ym {X Y:List Q2} {r s:Nat} (h:X[r]?=Y[s]?):aX X r=aX Y s:=by
 unfold aX bF aQ;rw [List.getD_eq_getElem?_getD,List.getD_eq_getElem?_getD,List.getElem?_map,List.getElem?_map,h]
theorem Wj {L:List Q2} {m a:Nat} {z:Nat→List Value} (ha:a=L.length - m) (hm:m≤L.length):∀ r,r < L.length →
  gQ (fun j=>gQ z 0 (fun j=>aX L (dR (0+m) j)) (dR 0 j)) (0+a) (fun j=>aX L (dR 0 j)) r=aX (L.drop m++L.take m) r:=fun r hr=>by
 by_cases h:r < a
 ·rw [iO (by omega),fO (Nat.zero_le _)]
  refine ym ?_;rw [List.getElem?_append_left (by rw [List.length_drop]; omega),List.getElem?_drop]
  simp [ar]
 ·rw [fO (by omega)]
  refine ym ?_;rw [List.getElem?_append_right (by rw [List.length_drop]; omega),List.length_drop,List.getElem?_take_of_lt (by omega)]
  simp [ar,ha]
theorem UZ {G:Nat→List Value} {L:List Q2} {m a:Nat} {z:Nat→List Value} (hG:∀ r,r < L.length→G r=aX L r) (ha:a=L.length - m) (hm:m≤L.length):∀ r,r < L.length →
  gQ (fun j=>gQ z 0 (fun j=>G (dR (0+m) j)) (dR 0 j)) (0+a) (fun j=>G (dR 0 j)) r=aX (L.drop m++L.take m) r:=fun r hr=>by
 rw [← Wj (z:=z) ha hm r hr];by_cases h:r < a
 ·rw [iO (show r < 0+a by omega),iO (show r < 0+a by omega),fO (Nat.zero_le _),fO (Nat.zero_le _)]
  have e:dR (0+m) (dR 0 r - 0)=m+r:=by rw [ar,ar]; omega
  rw [e];exact hG _ (by omega)
 ·rw [fO (show 0+a≤r by omega),fO (show 0+a≤r by omega)]
  have e:dR 0 (r - (0+a))=r - a:=by rw [ar]; omega
  rw [e];exact hG _ (by omega)
def XV.p (b:XV):Q4:=(b.1.p,b.2.p)
abbrev LL:=Option (List R3 × Nat)
def aai (l:List R3):Nat→List Value:=fun r=>(l.getD r uW).cells
def LL.val:LL→Value
 | none=>.slice none 0 0
 | some i=>.slice (some ⟨0,0,none⟩) i.1.length i.2
def LL.ae:LL→List ai
 | none=>[]
 | some i=>[.flat false i.1.length 9 (aai i.1)]
def LL.list:LL→List R3
 | none=>[]
 | some i=>i.1
def qs (l:List R3):List Q3:=l.map R3.q
instance (b:Q4):Decidable (okB b):=inferInstanceAs (Decidable (_∧_))
def aek (l:List Q3):Bool:=l.any fun m=>decide (¬ mY m)
theorem oW {O:List Q2} {q:Nat} {F f:Nat→List Value} {p:PV} {x:Q2} (hq:q=O.length) (hF:∀ r,r < q→F r=aX O r) (hp:p=cA x) (hf:f 0=p.cells):∀ r,r < q+1→gQ F q f r=aX (O++[x]) r:=fun r hr=>by
 by_cases h:r < q
 ·rw [iO h,hF r h];exact ym (by rw [List.getElem?_append_left (by omega)])
 ·rw [fO (by omega),show r - q=0 by omega,hf,hp]
  have:r=O.length:=by omega
  subst this;unfold aX bF aQ;rw [List.getD_eq_getElem?_getD,List.getElem?_map];simp
theorem rY {f:Nat→List Value} {p:PV} {x:Q2} (hp:p=cA x) (hf:f 0=p.cells):∀ r,r < 1→f r=aX [x] r:=fun r hr=>by
 have:r=0:=by omega
 subst this;rw [hf,hp]; rfl
theorem BF {α β:Type} {l:List α} {f:α→List β} {j:Nat} {e:α} (h:l[j]?=some e):(l.take (j+1)).flatMap f=(l.take j).flatMap f++f e:=by
 rw [List.take_add_one,h];simp
theorem Wk (m:Q3) (e:Q2 × Q2):(nM m e).length≤2:=by
 unfold nM mF gV;rw [List.length_append]
 split <;> split <;> simp
theorem FE (m:Q3):∀ l:List (Q2 × Q2),(l.flatMap (nM m)).length≤2*l.length
 | []=>by simp
 | e::l=>by
  have:=FE m l;have:=Wk m e;rw [List.flatMap_cons,List.length_append,List.length_cons];omega
theorem Wl (m:Q3) (l:List Q2):(dg m l).length≤2*l.length:=by
 rw [NZ];have:=FE m (bf l);rw [kP] at this;exact this
open Go
def ob {α:Type} (f:α→Bool) (l:List α) (i:Nat):Prop:=(l.take i).any f=false
theorem EE {α:Type} (f:α→Bool) (l:List α):ob f l 0:=rfl
theorem tQ {α:Type} {f:α→Bool} {l:List α} {i:Nat} {x:α} (h:ob f l i) (hx:l[i]?=some x) (hf:f x=false):ob f l (i+1):=by
 unfold ob at *;rw [List.take_add_one,hx,List.any_append,h];simp [hf]
theorem E7 {α:Type} {f:α→Bool} {l:List α} (h:ob f l l.length):l.any f=false:=by
 unfold ob at h;rw [List.take_length] at h;exact h
open Go
theorem TN {p q:Q2}:dV q p=0↔dV p q=0:=by rw [n7,n7]; exact eq_comm
open Go
structure aeQ (b:Q4) (l:List Q3):Prop where
 okb:okB b
 ae0:aek l=false
 few:l.length≤60
 fZ:bO (HO b l)
 flat:¬ Flat (HO b l)
 ring:Ring (fV (HO b l))
theorem Nd {P:List Q2} (h:Ring P):bO (fc P)∧(fc P).Nodup∧3≤(fc P).length:=⟨FC h.fZ,E6 h.nodup,by rw [yi]; exact h.three⟩
theorem wV {l:List Q2} (h:l.Nodup) {i j:Nat} (hi:i < l.length) (hj:j < l.length) (e:aF l i=aF l j):i=j:=by
 have h1:=gN hi;have J:=gN hj;rw [e] at h1;exact (List.getElem?_inj hi h).1 (h1.trans J.symm)
def ael (L:List Q2) (p:Q2):Prop:=∀ k,k < L.length→0≤aB (aF L k) (aF L (aZ L.length k)) p
theorem SN {P:List Q2} (h:Ring P) {u v w:Q2} (h1:(u,v)∈bf P) (J:(v,w)∈bf P):0 < aB u v w:=by
 obtain ⟨i,hi,e1⟩:=F7 h1;obtain ⟨j,hj,e2⟩:=F7 J;have a1:u=aF P i:=congrArg Prod.fst e1;have a2:v=aF P (aZ P.length i):=congrArg Prod.snd e1;have b1:v=aF P j:=congrArg Prod.fst e2;have b2:w=aF P (aZ P.length j):=congrArg Prod.snd e2;have e:=wV h.nodup (cJ hi) hj (a2.symm.trans b1);subst e;have:=h.xg _ hj;rw [GM hi] at this;rw [a1,a2,b2]; exact this
theorem U0 {P:List Q2} (h:Ring P):Ring (fc P):=by
 obtain ⟨h1,_,h3⟩:=Nd h;have hm:∀ e,e∈bf (fc P)→e∈bf P:=fun e he=>by
  have:=BD he
  rwa [List.take_append_drop] at this
 exact ⟨h1,h3,fun k hk=>SN h (hm _ (rX hk)) (hm _ (nq hk))⟩
theorem SO {P:List Q2} (h:Ring P) {k:Nat} (hk:k < (fc P).length) (h0:0 < k):0 < dV (aF (fc P) k) (aF (fc P) 0):=by
 obtain ⟨_,hn,h3⟩:=Nd h;obtain ⟨a,A,e,hle⟩:=FD (l:=P) (fun e=>by have:=h.three; rw [e] at this; exact absurd this (by decide))
 have ea:aF (fc P) 0=a:=by rw [e]; rfl
 have h1:=ur.1 (hle _ (uf.1 (fA hk)));rw [← ea] at h1;have J:dV (aF (fc P) k) (aF (fc P) 0)≠0:=fun e=>by
  have:=wV hn hk (by omega) (n7.1 e)
  omega
 omega
instance (L:List Q2) (p:Q2):Decidable (ael L p):=inferInstanceAs (Decidable (∀ k,k < L.length→_))
open Go
theorem N0 {o:Bool} (p:PV):aq (.flat false 1 6 (fun _=>p.cells)) (.aR o 6 [p.cells]) :=
 ⟨(fun h=>by cases h),rfl,Nat.le_refl _,fun r hr=>by
  have:r=0:=by have:r < 1:=hr; omega
  subst this; rfl,fun r hr v hv=>dQ (show mL p.cells=true from rfl) v hv⟩
def Q8 (m:Q3) (p:Q2):Prop:=mY m∧0≤bg m p
instance (m:Q3) (p:Q2):Decidable (Q8 m p):=inferInstanceAs (Decidable (_∧_))
def acJ (b:Q4) (l:List Q3) (p:Q2):Prop:=P8 b p∧∀ m∈l,Q8 m p
instance (b:Q4) (p:Q2):Decidable (P8 b p):=inferInstanceAs (Decidable (_∧_∧_∧_))
instance (b:Q4) (l:List Q3) (p:Q2):Decidable (acJ b l p):=inferInstanceAs (Decidable (_∧_))
theorem aaj {k n:Nat} (hk:k < n) (hn:n≤1099511627776):Int.tmod (IntKind.i64.wrap ((k:Int)+2)) (n:Int)=(aZ n (aZ n k):Int):=by
 rw [ay (by omega) (by omega)]
 show Int.tmod ((k+2:Nat):Int) (n:Int)=(((k+1) % n+1) % n:Nat)
 rw [Nat.mod_add_mod]
 rfl
open Go
def aG (L:List PV):List Q2:=L.map PV.p
def CK (m:Q3) (p q:PV):List PV:=if aW (bg m p.p) 0*aW (bg m q.p) 0 < 0 then [cA (atR p.p q.p (jf m p.p q.p))] else []
def qJ (m:Q3) (e:PV × PV):List PV:=(if aW (bg m e.1.p) 0 ≥ 0 then [e.1] else [])++CK m e.1 e.2
def mQ (m:Q3) (L:List PV):List PV:=(bf L).flatMap (qJ m)
theorem Wm (m:Q3) (L:List PV):aG (mQ m L)=dg m (aG L):=by
 unfold aG mQ dg;rw [US,List.map_flatMap,List.flatMap_map]
 congr 1
 funext e
 unfold qJ CK mF gV;rw [List.map_append]
 congr 1
 ·split <;> rfl
 ·split
  ·rw [List.map_cons,gF]; rfl
  ·rfl
def gg (L:List PV) (k:Nat):PV:=L.getD k (dc,dc)
theorem yH {L:List PV} {k:Nat} (h:k < L.length):L[k]?=some (gg L k):=by
 unfold gg; rw [List.getD_eq_getElem?_getD,List.getElem?_eq_getElem h]; rfl
theorem lO {L:List PV} {k:Nat} (h:k < L.length):gg L k∈L:=List.mem_of_getElem? (yH h)
theorem ni {L:List PV} {k:Nat} (h:k < L.length):bF L k=(gg L k).cells:=by
 unfold bF;rw [List.getD_eq_getElem?_getD,yH h]; rfl
theorem jC {L:List PV} {k:Nat} (h:k < L.length):(gg L k).p=aF (aG L) k:=by
 refine (sD ?_).symm;unfold aG;rw [List.getElem?_map,yH h]; rfl
theorem SP {X Y:List PV} {r s:Nat} (h:X[r]?=Y[s]?):bF X r=bF Y s:=by
 unfold bF;rw [List.getD_eq_getElem?_getD,List.getD_eq_getElem?_getD,h]
theorem yI {O:List PV} {q:Nat} {F f:Nat→List Value} {x:PV} (hq:q=O.length) (hF:∀ r,r < q→F r=bF O r) (hf:f 0=x.cells):∀ r,r < q+1→gQ F q f r=bF (O++[x]) r:=fun r hr=>by
 by_cases h:r < q
 ·rw [iO h,hF r h];exact SP (by rw [List.getElem?_append_left (by omega)])
 ·rw [fO (by omega),show r - q=0 by omega,hf]
  have:r=O.length:=by omega
  subst this;unfold bF;rw [List.getD_eq_getElem?_getD];simp
theorem Gc {f:Nat→List Value} {x:PV} (hf:f 0=x.cells):∀ r,r < 1→f r=bF [x] r:=fun r hr=>by
 have:r=0:=by omega
 subst this;exact hf
theorem U1 (m:Q3) (e:PV × PV):(qJ m e).length≤2:=by
 unfold qJ CK;rw [List.length_append]
 split <;> split <;> simp
theorem Bk {α β:Type} {f:α→List β} {c:Nat} (h:∀ a,(f a).length≤c):∀ l:List α,(l.flatMap f).length≤c*l.length
 | []=>by simp
 | e::l=>by
  have:=Bk h l;have:=h e;rw [List.flatMap_cons,List.length_append,List.length_cons,Nat.mul_add];omega
theorem Xz (m:Q3) (L:List PV) (j:Nat):(((bf L).take j).flatMap (qJ m)).length≤2*L.length:=by
 refine Nat.le_trans (Bk (U1 m) _) ?_;have:((bf L).take j).length≤L.length:=by rw [List.length_take,kP]; omega
 omega
theorem U2 {m:Q3} {a b w:PV} {x y:Rat} (hx:x=bg m a.p) (hy:y=bg m b.p) (hw:w=cA (atR a.p b.p (x / (x - y)))) :
  qJ m (a,b)=(if aW x 0 ≥ 0 then [a] else [])++if aW x 0*aW y 0 < 0 then [w] else []:=by
 subst hx; subst hy; subst hw; rfl
def nH:ax:={ ι:=(List PV × Nat) × R3,args:=fun i=>[.slice (some ⟨0,0,none⟩) i.1.1.length i.1.2,i.2.v],ae:=fun i=>[.flat false i.1.1.length 6 (bF i.1.1)],pre:=fun i=>i.1.1.length≤274877906944∧(∀ v∈i.1.1,v.sz 262144)∧i.2.sz 1048576,val:=fun i=>.slice (some ⟨1,0,none⟩) (mQ i.2.q i.1.1).length ao,new:=fun i=>some (.flat true (mQ i.2.q i.1.1).length 6 (bF (mQ i.2.q i.1.1))) }
def ny:ax:={ ι:=List PV × Nat,args:=fun i=>[.slice (some ⟨0,0,none⟩) i.1.length i.2],ae:=fun i=>[.flat false i.1.length 6 (bF i.1)],pre:=fun i=>i.1.length≤549755813888∧∀ v∈i.1,v.sz 262144,val:=fun i=>.slice (some ⟨1,0,none⟩) (cV (aG i.1)).length ao,new:=fun i=>some (.flat true (cV (aG i.1)).length 6 (aX (cV (aG i.1)))) }
def Hk:bG:={ ι:=PV × kf,args:=fun i=>[i.1.v,i.2.1.v,i.2.2.v],pre:=fun i=>i.1.sz 262144∧i.2.1.sz 262144∧i.2.2.sz 262144,val:=fun i=>.int .i64 (aW (aB i.1.p i.2.1.p i.2.2.p) 0) }
theorem Wn {a b:Q2} {z:Int} (h:z=dV a b):kX (a,b)=if z≠0 then [a] else []:=by subst h; rfl
theorem Nf {l:List Q2} {i:Nat} {a b c:Q2} {z:Int} (ha:a=aF l (dZ l.length i)) (hb:b=aF l i) (hc:c=aF l (aZ l.length i)) (hz:z=aW (aB a b c) 0):kY l i=if z≠0 then [b] else []:=by
 unfold kY;rw [← ha,← hb,← hc,hz];by_cases h:aB a b c=0
 ·rw [if_neg (fun e=>e h),if_neg (fun e=>e (GJ h))]
 ·rw [if_pos h,if_pos (fun e=>h (yA.1 e))]
theorem cE (L:List PV):(aG L).length=L.length:=List.length_map ..
theorem uu {L:List PV} {k:Nat} (h:∀ v∈L,v.sz k) (hk:1≤k):∀ v∈aG L,Q2.sz k v:=fun v hv=>by
 obtain ⟨p,hp,rfl⟩:=List.mem_map.1 hv;exact PV.cM (h p hp) hk
theorem U3 (C:List Q2):jv C 1=0:=by
 show (if dV (aF C 0) (aF C 0) < 0 then 0 else 0)=0
 split <;> rfl
theorem N1 (L:List Q2) (j:Nat):(((bf L).take j).flatMap kX).length≤L.length:=by
 refine Nat.le_trans (Bk (c:=1) (fun e=>by unfold kX; split <;> simp) _) ?_
 rw [List.length_take,kP]; omega
theorem GN (L:List Q2) (j:Nat):((List.range j).flatMap (kY L)).length≤j:=by
 refine Nat.le_trans (Bk (c:=1) (fun e=>by unfold kY; split <;> simp) _) ?_
 rw [List.length_range]; omega
theorem U4 {E z:Nat→List Value} {C:List Q2} {m a n:Nat} (hE:∀ r,r < n→E r=aX C r) (hn:n=C.length) (ha:a=n - m) (hm:m≤n):∀ r,r < n →
  gQ (gQ z 0 fun j=>E (dR (0+m) j)) (0+a) (fun j=>E (dR 0 j)) r=aX (C.drop m++C.take m) r:=fun r hr=>by
 by_cases h:r < a
 ·rw [iO (by omega),fO (Nat.zero_le _),ar,hE _ (by omega)]
  refine ym ?_;rw [List.getElem?_append_left (by rw [List.length_drop]; omega),List.getElem?_drop]
  congr 1; omega
 ·rw [fO (by omega),ar,hE _ (by omega)]
  refine ym ?_;rw [List.getElem?_append_right (by rw [List.length_drop]; omega),List.length_drop,List.getElem?_take_of_lt (by omega)]
  congr 1; omega
def qK:Nat→Nat
 | 0=>0
 | _+1=>ao
theorem Wo {m:Q3} {P:List PV} {v:PV} (h:v∈mQ m P):v∈P∨v=cA v.p:=by
 obtain ⟨e,he,hv⟩:=List.mem_flatMap.1 h;unfold qJ at hv;rcases List.mem_append.1 hv with hv | hv
 ·split at hv
  ·rw [List.mem_singleton.1 hv]; exact .inl (oU he).1
  ·cases hv
 ·unfold CK at hv
  split at hv
  ·rw [List.mem_singleton.1 hv,gF]; exact .inr rfl
  ·cases hv
end Go.Ae
