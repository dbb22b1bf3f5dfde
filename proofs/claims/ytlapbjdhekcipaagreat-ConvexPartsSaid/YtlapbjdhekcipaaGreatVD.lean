import Derived.Laws.Strings
import Derived.Test.YtlapbjdhekcipaaGreatVC
set_option linter.unusedVariables false
set_option linter.unusedSimpArgs false
namespace Go.Ae
open Go
theorem UK (x:Int):IntKind.i64.wrap x=if x % 18446744073709551616 ≥ 9223372036854775808 then x % 18446744073709551616 - 18446744073709551616 else x % 18446744073709551616:=by
 have:IntKind.i64.wrap x=if (true && decide (x % (2 ^ 64:Int) ≥ (2 ^ 63:Int)))=true then x % (2 ^ 64:Int) - (2 ^ 64:Int) else x % (2 ^ 64:Int):=rfl
 rw [this];simp
theorem ar {x:Int} (h:-9223372036854775808≤x) (J:x < 9223372036854775808):IntKind.i64.wrap x=x:=by
 rw [UK]
 split <;> omega
theorem Bo (x:Int):IntKind.u64.wrap x=x % 18446744073709551616:=by
 unfold IntKind.wrap;simp [IntKind.bits,IntKind.signed]
theorem bL {x:Int} (h:0≤x) (J:x < 18446744073709551616):IntKind.u64.wrap x=x:=by rw [Bo]; omega
theorem wA (x:Int):IntKind.u32.wrap x=x % 4294967296:=by
 unfold IntKind.wrap;simp [IntKind.bits,IntKind.signed]
theorem c8 {x:Int} (h:0≤x) (J:x < 4294967296):IntKind.u32.wrap x=x:=by rw [wA]; omega
theorem lI (x:Int):IntKind.u8.wrap x=x % 256:=by
 unfold IntKind.wrap;simp [IntKind.bits,IntKind.signed]
theorem dA {x:Int} (h:0≤x) (J:x < 256):IntKind.u8.wrap x=x:=by rw [lI]; omega
abbrev B:Nat:=4294967296
theorem dV (n:Nat):0 < B ^ n:=Nat.pow_pos (by decide)
def al (N i:Nat):Nat:=N / B ^ i % B
theorem cH (N i:Nat):al N i < B:=Nat.mod_lt _ (by decide)
def cF (Y j d:Nat):Nat:=Y % B ^ j+B ^ j*(d+B*(Y / B ^ (j+1)))
theorem EY (Y j:Nat):Y=Y % B ^ j+B ^ j*(al Y j+B*(Y / B ^ (j+1))):=by
 have h1:=Nat.mod_add_div Y (B ^ j);have J:=Nat.mod_add_div (Y / B ^ j) B;rw [Nat.div_div_eq_div_mul,← Nat.pow_succ] at J;unfold al;rw [J,h1]
theorem pU (Y j d:Nat):cF Y j d+al Y j*B ^ j=Y+d*B ^ j:=by
 have h:=EY Y j;unfold cF;rw [Nat.mul_add] at h ⊢;have e1:B ^ j*al Y j=al Y j*B ^ j:=Nat.mul_comm _ _;have e2:B ^ j*d=d*B ^ j:=Nat.mul_comm _ _;omega
theorem oN {a k Q:Nat} (h:a < k):(a+k*Q) / k=Q:=by
 have hk:0 < k:=by omega
 rw [Nat.add_mul_div_left _ _ hk,Nat.div_eq_of_lt h,Nat.zero_add]
theorem Fu {Y j d:Nat} (hd:d < B) (r:Nat):al (cF Y j d) r=if r=j then d else al Y r:=by
 have ha:Y % B ^ j < B ^ j:=Nat.mod_lt _ (dV j);rcases Nat.lt_trichotomy r j with h | h | h
 ·rw [if_neg (by omega)]
  have key:∀ K,al (Y % B ^ j+B ^ j*K) r=al (Y % B ^ j) r:=by
   intro K;unfold al;have e:B ^ j*K=B ^ r*(B*(B ^ (j - r - 1)*K)):=by
    rw [← Nat.mul_assoc,← Nat.mul_assoc,← Nat.pow_succ,← Nat.pow_add,show r+1+(j - r - 1)=j by omega]
   rw [e,Nat.add_mul_div_left _ _ (dV r),Nat.add_mul_mod_self_left]
  have h1:=key (d+B*(Y / B ^ (j+1)));have J:=key (al Y j+B*(Y / B ^ (j+1)));rw [← EY Y j] at J;unfold cF;rw [h1,J]
 ·subst h;rw [if_pos rfl];unfold cF al;rw [oN ha,Nat.add_mul_mod_self_left,Nat.mod_eq_of_lt hd]
 ·rw [if_neg (by omega)]
  have key:∀ d',d' < B→al (Y % B ^ j+B ^ j*(d'+B*(Y / B ^ (j+1)))) r=Y / B ^ (j+1) / B ^ (r - j - 1) % B:=by
   intro d' cS;unfold al;have e:B ^ r=B ^ j*(B*B ^ (r - j - 1)):=by
    rw [← Nat.mul_assoc,← Nat.pow_succ,← Nat.pow_add,show j+1+(r - j - 1)=r by omega]
   rw [e,← Nat.div_div_eq_div_mul,oN ha,← Nat.div_div_eq_div_mul,oN cS]
  have h1:=key d hd;have J:=key (al Y j) (cH Y j);rw [← EY Y j] at J;unfold cF;rw [h1,J]
def bo (N:Nat):Nat→List Value:=fun r=>[.int .u32 (al N r)]
theorem fy {Y j d:Nat} (hd:d < B):(fun r=>if r=j then [Value.int .u32 d] else bo Y r)=bo (cF Y j d):=by
 funext r
 unfold bo;rw [Fu hd]
 split <;> rfl
theorem EZ (r:Nat):al 0 r=0:=by simp [al]
theorem tD:(fun _=>[Value.int .u32 0])=bo 0:=by
 funext r
 simp [bo,EZ]
theorem tT {N n:Nat} (h:N < B ^ n) {r:Nat} (hr:n≤r):al N r=0:=by
 unfold al;have:B ^ n≤B ^ r:=Nat.pow_le_pow_right (by decide) hr
 rw [Nat.div_eq_of_lt (by omega)]; rfl
theorem mod_succ (N i:Nat):N % B ^ (i+1)=N % B ^ i+al N i*B ^ i:=by
 unfold al;rw [Nat.pow_succ,Nat.mod_mul];rw [Nat.mul_comm (B ^ i)]
theorem pZ (N i:Nat):N / B ^ i=al N i+B*(N / B ^ (i+1)):=by
 have J:=Nat.mod_add_div (N / B ^ i) B;rw [Nat.div_div_eq_div_mul,← Nat.pow_succ] at J;exact J.symm
def nl (N:Nat):Nat:=if h:N=0 then 0 else nl (N / B)+1
decreasing_by exact Nat.div_lt_self (by omega) (by decide)
theorem rY:nl 0=0:=by rw [nl]; rfl
theorem F5 {N:Nat} (h:N≠0):nl N=nl (N / B)+1:=by rw [nl]; simp [h]
theorem bV (N:Nat):N < B ^ nl N:=by
 induction N using Nat.strongRecOn with
 | _ N ih =>
  by_cases h:N=0
  ·subst h; rw [rY]; decide
  ·have:=ih (N / B) (Nat.div_lt_self (by omega) (by decide))
   rw [F5 h,Nat.pow_succ];exact (Nat.div_lt_iff_lt_mul (by decide)).1 this
theorem jT {N n:Nat} (h:N < B ^ n):nl N≤n:=by
 induction n generalizing N with
 | zero =>
  have:N=0:=by simpa using h
  subst this; rw [rY]; exact Nat.le_refl _
 | succ n ih =>
  by_cases h0:N=0
  ·subst h0; rw [rY]; omega
  ·have:N / B < B ^ n:=(Nat.div_lt_iff_lt_mul (by decide)).2 (by rw [← Nat.pow_succ]; exact h)
   rw [F5 h0];have:=ih this;omega
theorem yH {N:Nat} (h:N≠0):0 < nl N:=by rw [F5 h]; omega
theorem KQ {N:Nat} (h:nl N=0):N=0:=by
 by_cases h0:N=0
 ·exact h0
 ·have:=yH h0; omega
theorem Rb {N:Nat} (h:N≠0):B ^ (nl N - 1)≤N:=by
 rcases Nat.lt_or_ge N (B ^ (nl N - 1)) with h1 | h1
 ·have:=jT h1;have:=yH h;omega
 ·exact h1
theorem Oq {N n:Nat} (h:N < B ^ n) (J:n=0∨al N (n - 1)≠0):nl N=n:=by
 rcases J with rfl | J
 ·have:=jT h; omega
 ·have h3:=jT h;rcases Nat.lt_or_ge (nl N) n with h4 | h4
  ·exact absurd (tT (bV N) (show nl N≤n - 1 by omega)) J
  ·omega
theorem lJ {M N:Nat} (h:M≤N):nl M≤nl N:=jT (Nat.lt_of_le_of_lt h (bV N))
theorem Kk {M N:Nat} (h:nl M < nl N):M < N:=by
 rcases Nat.lt_or_ge M N with h1 | h1
 ·exact h1
 ·have:=lJ h1; omega
theorem UL {N:Nat} (h:N≠0):al N (nl N - 1)≠0:=by
 intro h0;have h1:=bV N;have J:=yH h;have e:nl N=nl N - 1+1:=by omega
 have h3:=mod_succ N (nl N - 1);rw [← e,h0,Nat.mod_eq_of_lt h1] at h3;have h4:=Nat.mod_lt N (dV (nl N - 1));have:=jT (show N < B ^ (nl N - 1) by omega)
 omega
open Go
abbrev C:Nat:=256
theorem gQ (n:Nat):0 < C ^ n:=Nat.pow_pos (by decide)
def dh (l:List UInt8):Nat:=l.foldl (fun a b=>a*C+b.toNat) 0
theorem Ly (l:List UInt8):∀ a,l.foldl (fun a b=>a*C+b.toNat) a=a*C ^ l.length+dh l:=by
 induction l with
 | nil=>intro a; simp [dh]
 | cons b l ih =>
  intro a;simp only [List.foldl_cons,dh];rw [ih,ih (0*C+b.toNat)];rw [List.length_cons,Nat.pow_succ,Nat.add_mul,Nat.zero_mul,Nat.zero_add,Nat.mul_assoc,Nat.mul_comm C,Nat.add_assoc]
theorem rN (b:UInt8) (l:List UInt8):dh (b::l)=b.toNat*C ^ l.length+dh l:=by
 have:=Ly l (0*C+b.toNat);rw [Nat.zero_mul,Nat.zero_add] at this
 simpa [dh] using this
theorem AP (l m:List UInt8):dh (l++m)=dh l*C ^ m.length+dh m:=by
 unfold dh;rw [List.foldl_append,Ly]
 rfl
theorem Hf (b:UInt8):b.toNat < C:=b.toNat_lt
theorem rZ (l:List UInt8):dh l < C ^ l.length:=by
 induction l with
 | nil=>decide
 | cons b l ih =>
  rw [rN,List.length_cons,Nat.pow_succ];have:=Hf b;have J:(b.toNat+1)*C ^ l.length≤C*C ^ l.length:=Nat.mul_le_mul_right _ this;rw [Nat.add_mul] at J;rw [Nat.mul_comm (C ^ l.length)];omega
theorem UM {l:List UInt8} {i:Nat} (h:i < l.length):l[i].toNat=dh l / C ^ (l.length - 1 - i) % C:=by
 induction l generalizing i with
 | nil=>simp at h
 | cons b l ih =>
  cases i with
  | zero =>
   simp only [List.getElem_cons_zero,List.length_cons,Nat.add_sub_cancel,Nat.sub_zero];rw [rN,Nat.mul_comm,Nat.mul_add_div (gQ _),Nat.div_eq_of_lt (rZ l),Nat.add_zero,Nat.mod_eq_of_lt (Hf b)]
  | succ i =>
   have hi:i < l.length:=by simpa using h
   simp only [List.getElem_cons_succ,List.length_cons,Nat.add_sub_cancel];rw [ih hi,rN];have e:C ^ l.length=C ^ (l.length - (i+1))*(C*C ^ i):=by
    rw [← Nat.mul_assoc,← Nat.pow_succ,← Nat.pow_add,show l.length - (i+1)+1+i=l.length by omega]
   rw [show l.length - 1 - i=l.length - (i+1) by omega,e]
   rw [show b.toNat*(C ^ (l.length - (i+1))*(C*C ^ i))=C ^ (l.length - (i+1))*(C*(C ^ i*b.toNat)) by
    rw [Nat.mul_comm,Nat.mul_assoc,Nat.mul_assoc]]
   rw [Nat.mul_add_div (gQ _),Nat.mul_add_mod]
def ab (s:ByteArray):Nat:=dh s.data.toList
theorem size_eq (s:ByteArray):s.data.toList.length=s.size:=rfl
theorem gu (s:ByteArray):ab s < C ^ s.size:=rZ _
theorem tM {s:ByteArray} {i:Nat} (h:i < s.size):bX s i=ab s / C ^ (s.size - 1 - i) % C:=by
 have h':i < s.data.toList.length:=h;have:=UM h';unfold bX ab;rw [List.getD_eq_getElem?_getD,List.getElem?_eq_getElem h',Option.getD_some,this]
 rfl
theorem wj (s:ByteArray) (i:Nat):bX s i < C:=Hf _
theorem GD {s t:ByteArray} (h:s.data.toList=t.data.toList):s=t:=by
 cases s; cases t; congr; exact Array.ext' h
theorem UN {l m:List UInt8} (h:l.length=m.length) (J:dh l=dh m):l=m:=by
 induction l generalizing m with
 | nil=>cases m with
  | nil=>rfl
  | cons=>simp at h
 | cons a l ih=>cases m with
  | nil=>simp at h
  | cons b m =>
   simp only [List.length_cons,Nat.add_right_cancel_iff] at h;rw [rN,rN,h] at J;have h3:=rZ l;have h4:=rZ m;rw [h] at h3;have ha:a.toNat=b.toNat:=by
    have e1:(a.toNat*C ^ m.length+dh l) / C ^ m.length=a.toNat:=by
     rw [Nat.mul_comm,Nat.mul_add_div (gQ _),Nat.div_eq_of_lt h3,Nat.add_zero]
    have e2:(b.toNat*C ^ m.length+dh m) / C ^ m.length=b.toNat:=by
     rw [Nat.mul_comm,Nat.mul_add_div (gQ _),Nat.div_eq_of_lt h4,Nat.add_zero]
    rw [← e1,← e2,J]
   rw [ha] at J;rw [UInt8.toNat_inj.1 ha,ih h (by omega)]
theorem UO {s t:ByteArray} (h:s.size=t.size) (J:ab s=ab t):s=t:=GD (UN h J)
def pM:Nat→Nat→List UInt8
 | 0,_=>[]
 | n+1,Y=>pM n (Y / C)++[UInt8.ofNat (Y % C)]
theorem v7:∀ (n Y:Nat),(pM n Y).length=n
 | 0,_=>rfl
 | n+1,Y=>by simp [pM,v7 n]
theorem ofNat_mod (x:Nat):(UInt8.ofNat (x % C)).toNat=x % C:=by
 have:x % C < 256:=Nat.mod_lt _ (by decide)
 simp [UInt8.toNat_ofNat,Nat.mod_eq_of_lt this]
theorem Mi:∀ (n Y:Nat),dh (pM n Y)=Y % C ^ n
 | 0,Y=>by simp [pM,dh,Nat.mod_one]
 | n+1,Y=>by
  rw [pM,AP,Mi n,rN];simp only [List.length_cons,List.length_nil,Nat.zero_add,Nat.pow_zero,Nat.mul_one,Nat.pow_one];rw [ofNat_mod,Nat.pow_succ,Nat.mul_comm (C ^ n),Nat.mod_mul];simp only [dh,List.foldl_nil,Nat.add_zero];rw [Nat.mul_comm]; omega
def be (n Y:Nat):ByteArray:=⟨⟨pM n Y⟩⟩
theorem wL (n Y:Nat):(be n Y).size=n:=v7 n Y
theorem F6 (n Y:Nat):ab (be n Y)=Y % C ^ n:=Mi n Y
def aQ (N:Nat):Nat:=if h:N=0 then 0 else aQ (N / C)+1
decreasing_by exact Nat.div_lt_self (by omega) (by decide)
theorem wB:aQ 0=0:=by rw [aQ]; rfl
theorem Fv {N:Nat} (h:N≠0):aQ N=aQ (N / C)+1:=by rw [aQ]; simp [h]
theorem lL (N:Nat):N < C ^ aQ N:=by
 induction N using Nat.strongRecOn with
 | _ N ih =>
  by_cases h:N=0
  ·subst h; rw [wB]; decide
  ·have:=ih (N / C) (Nat.div_lt_self (by omega) (by decide))
   rw [Fv h,Nat.pow_succ];exact (Nat.div_lt_iff_lt_mul (by decide)).1 this
theorem fj {N n:Nat} (h:N < C ^ n):aQ N≤n:=by
 induction n generalizing N with
 | zero =>
  have:N=0:=by simpa using h
  subst this; rw [wB]; exact Nat.le_refl _
 | succ n ih =>
  by_cases h0:N=0
  ·subst h0; rw [wB]; omega
  ·have:N / C < C ^ n:=(Nat.div_lt_iff_lt_mul (by decide)).2 (by rw [← Nat.pow_succ]; exact h)
   rw [Fv h0];have:=ih this;omega
theorem F7 {N:Nat} (h:N≠0):0 < aQ N:=by rw [Fv h]; omega
theorem RB {N:Nat} (h:aQ N=0):N=0:=by
 by_cases h0:N=0
 ·exact h0
 ·have:=F7 h0; omega
theorem iO {M N:Nat} (h:M≤N):aQ M≤aQ N:=fj (Nat.lt_of_le_of_lt h (lL N))
theorem Rc {M N:Nat} (h:aQ M < aQ N):M < N:=by
 rcases Nat.lt_or_ge M N with h1 | h1
 ·exact h1
 ·have:=iO h1; omega
theorem NJ {N n:Nat} (h:N < C ^ n) (J:n=0∨C ^ (n - 1)≤N):aQ N=n:=by
 rcases J with rfl | J
 ·have:=fj h; omega
 ·have h3:=fj h;rcases Nat.lt_or_ge (aQ N) n with h4 | h4
  ·have h5:C ^ aQ N≤C ^ (n - 1):=Nat.pow_le_pow_right (by decide) (by omega)
   have:=lL N;omega
  ·omega
theorem QX {N:Nat} (h:N≠0):C ^ (aQ N - 1)≤N:=by
 rcases Nat.lt_or_ge N (C ^ (aQ N - 1)) with h1 | h1
 ·have:=fj h1;have:=F7 h;omega
 ·exact h1
def nb (N:Nat):ByteArray:=be (aQ N) N
theorem gE (N:Nat):(nb N).size=aQ N:=wL _ _
theorem ia (N:Nat):ab (nb N)=N:=by unfold nb; rw [F6,Nat.mod_eq_of_lt (lL N)]
theorem NK {M N:Nat} (h:nb M=nb N):M=N:=by rw [← ia M,h,ia]
theorem oS:nb 0=⟨#[]⟩:=by unfold nb; rw [wB]; rfl
theorem jg (s:ByteArray):aQ (ab s)≤s.size:=fj (gu s)
theorem abw {s:ByteArray} (h:s.size=0∨C ^ (s.size - 1)≤ab s):s=nb (ab s):=by
 refine UO ?_ (ia _).symm;rw [gE,NJ (gu s) h]
theorem yI {s:ByteArray} (h:s.size=0∨bX s 0≠0):s=nb (ab s):=by
 refine abw (h.imp_right fun h=>?_)
 by_cases h0:s.size=0
 ·exfalso;apply h;unfold bX;have:s.data.toList=[]:=List.eq_nil_of_length_eq_zero h0;rw [this]; rfl
 ·rw [tM (by omega)] at h
  rcases Nat.lt_or_ge (ab s) (C ^ (s.size - 1)) with h1 | h1
  ·rw [Nat.sub_zero,Nat.div_eq_of_lt h1] at h;exact absurd rfl h
  ·exact h1
theorem RC (s t:ByteArray):ab (s++t)=ab s*C ^ t.size+ab t:=by
 unfold ab;have:(s++t).data.toList=s.data.toList++t.data.toList:=by simp
 rw [this,AP]; rfl
theorem J1 (s:ByteArray) (l h:Nat):(s.extract l h).data.toList=(s.data.toList.take h).drop l:=by
 simp [ByteArray.data_extract,List.extract,List.drop_take]
theorem DV {s:ByteArray} {l h:Nat} (h1:l≤h) (J:h≤s.size):(s.extract l h).size=h - l:=by
 rw [← size_eq,J1];have:h≤s.data.toList.length:=J;simp; omega
theorem TA (l:List UInt8) (n:Nat) (h:n≤l.length):dh (l.drop n)=dh l % C ^ (l.length - n):=by
 have e:dh l=dh (l.take n)*C ^ (l.drop n).length+dh (l.drop n):=by rw [← AP,List.take_append_drop]
 have J:=rZ (l.drop n);rw [List.length_drop] at e J;rw [e,Nat.mul_comm,Nat.mul_add_mod,Nat.mod_eq_of_lt J]
theorem TB (l:List UInt8) (n:Nat) (h:n≤l.length):dh (l.take n)=dh l / C ^ (l.length - n):=by
 have e:dh l=dh (l.take n)*C ^ (l.drop n).length+dh (l.drop n):=by rw [← AP,List.take_append_drop]
 have J:=rZ (l.drop n);rw [List.length_drop] at e J;rw [e,Nat.mul_comm,Nat.mul_add_div (gQ _),Nat.div_eq_of_lt J,Nat.add_zero]
theorem DZ {s:ByteArray} {l h:Nat} (h1:l≤h) (J:h≤s.size):ab (s.extract l h)=ab s / C ^ (s.size - h) % C ^ (h - l):=by
 unfold ab;have j9:h≤s.data.toList.length:=J;have e:(s.data.toList.take h).length=h:=by rw [List.length_take]; omega
 rw [J1,TA _ _ (by rw [e]; exact h1),TB _ _ j9,e]
 rfl
theorem qk (s t:ByteArray):(s.toList == t.toList)=decide (s=t):=by
 rw [ByteArray.toList_eq,ByteArray.toList_eq];by_cases h:s=t
 ·subst h; simp
 ·simp [h];intro J;exact h (GD (by rw [J]))
theorem E2 {s:ByteArray}:s=⟨#[]⟩↔s.size=0:=by
 constructor
 ·intro h; subst h; rfl
 ·intro h;refine GD ?_;exact List.eq_nil_of_length_eq_zero h
theorem J2 {N:Nat}:nb N=⟨#[]⟩↔N=0:=by
 rw [E2,gE];exact ⟨RB,fun h=>by rw [h,wB]⟩
theorem J3:∀ {l m:List UInt8},l.length=m.length→Op.bytesLess l m=decide (dh l < dh m)
 | [],[],_=>by simp [Op.bytesLess,dh]
 | [],_::_,h=>by simp at h
 | _::_,[],h=>by simp at h
 | a::l,b::m,h=>by
  have h:l.length=m.length:=by simpa using h
  have ih:=J3 h;unfold Op.bytesLess;rw [ih,rN,rN,h];have h3:=rZ l;have h4:=rZ m;rw [h] at h3;rcases Nat.lt_trichotomy a.toNat b.toNat with ef | ef | ef
  ·have:a < b:=UInt8.lt_iff_toNat_lt.2 ef;have h5:(a.toNat+1)*C ^ m.length≤b.toNat*C ^ m.length:=Nat.mul_le_mul_right _ ef;rw [Nat.add_mul] at h5;have h6:a.toNat*C ^ m.length+dh l < b.toNat*C ^ m.length+dh m:=by omega
   simp [this,h6]
  ·have e:a=b:=UInt8.toNat_inj.1 ef;subst e;simp
  ·have:¬ a < b:=fun h=>by have:=UInt8.lt_iff_toNat_lt.1 h; omega
   have h5:(b.toNat+1)*C ^ m.length≤a.toNat*C ^ m.length:=Nat.mul_le_mul_right _ ef;rw [Nat.add_mul] at h5;have h6:¬ (a.toNat*C ^ m.length+dh l < b.toNat*C ^ m.length+dh m):=by omega
   have h7:¬ a=b:=fun e=>by subst e; omega
   simp [this,h6,h7]
theorem UP {s t:ByteArray} (h:s.size=t.size):Op.bytesLess s.toList t.toList=decide (ab s < ab t):=by
 rw [ByteArray.toList_eq,ByteArray.toList_eq];exact J3 h
open Go
theorem sC (a:Int) (k:Nat):a.fdiv (2 ^ k)=a / 2 ^ k:=Int.fdiv_eq_ediv_of_nonneg _ (Int.le_of_lt (Int.pow_pos (by decide)))
theorem E3 (b:BitVec 32):IntKind.u32.wrap (b.toNat:Int)=b.toNat:=c8 (by omega) (by have:=b.isLt; omega)
theorem UQ {w:Nat} (b:BitVec w):BitVec.ofInt w (b.toNat:Int)=b:=by
 rw [BitVec.ofInt_natCast,BitVec.ofNat_toNat]; simp
theorem Wa (b:BitVec 32):(b.toNat:Int) / 2147483648=if b.msb then 1 else 0:=by
 have h:=b.isLt;rw [BitVec.msb_eq_decide];by_cases h1:2 ^ (32 - 1)≤b.toNat
 ·simp [h1]; omega
 ·simp [h1]; omega
theorem toNat_ofInt32 (x:Nat) (h:x < 4294967296):(BitVec.ofInt 32 (x:Int)).toNat=x:=by
 rw [BitVec.ofInt_natCast,BitVec.toNat_ofNat]; exact Nat.mod_eq_of_lt h
theorem D8 (x:Nat) (h:x < 4294967296):(BitVec.ofInt 32 (x:Int)).msb=decide (2147483648≤x):=by
 rw [BitVec.msb_eq_decide,toNat_ofInt32 x h]
theorem Sf (x y c:Nat) (hx:x < 4294967296) (hy:y < 4294967296) (hc:c≤1) (d:Nat) (hd:d=(x+2*4294967296 - y - c) % 4294967296) :
  (((BitVec.ofInt 32 (4294967295:Int) ^^^ BitVec.ofInt 32 (x:Int)) &&& BitVec.ofInt 32 (y:Int)) ||| ((BitVec.ofInt 32 (4294967295:Int) ^^^ (BitVec.ofInt 32 (x:Int) ^^^ BitVec.ofInt 32 (y:Int))) &&& BitVec.ofInt 32 (d:Int))).msb=decide (x < y+c):=by
 have cS:d < 4294967296:=by omega
 have ho:(BitVec.ofInt 32 (4294967295:Int)).msb=true:=by decide
 rw [BitVec.msb_or,BitVec.msb_and,BitVec.msb_and,BitVec.msb_xor,BitVec.msb_xor,BitVec.msb_xor,ho,D8 x hx,D8 y hy,D8 d cS];by_cases h1:2147483648≤x <;> by_cases J:2147483648≤y <;> by_cases h3:2147483648≤d <;> simp [h1,J,h3] <;> omega
theorem Wb (x y:Nat) (hx:x < 4294967296) (hy:y < 4294967296):((BitVec.ofInt 64 ((x:Int)*4294967296) ||| BitVec.ofInt 64 (y:Int)).toNat:Int)=(x*4294967296+y:Nat):=by
 have e1:BitVec.ofInt 64 ((x:Int)*4294967296)=BitVec.ofNat 64 (x*4294967296):=by
  rw [← BitVec.ofInt_natCast]; congr 1
 rw [e1,BitVec.ofInt_natCast,BitVec.toNat_or,BitVec.toNat_ofNat,BitVec.toNat_ofNat,Nat.mod_eq_of_lt (by omega),Nat.mod_eq_of_lt (by omega)]
 have:=Nat.shiftLeft_add_eq_or_of_lt (i:=32) (b:=y) (by simpa using hy) x
 rw [Nat.shiftLeft_eq] at this;have J:(2:Nat) ^ 32=4294967296:=by decide
 rw [J] at this;rw [← this]
theorem dO (a:Int):a.fdiv (2 ^ min (Int.toNat 31) IntKind.u64.bits)=a / 2147483648:=by rw [sC]; rfl
theorem cf (a:Int):a.fdiv (2 ^ min (Int.toNat 32) IntKind.u64.bits)=a / 4294967296:=by rw [sC]; rfl
theorem db (a:Int):a.fdiv (2 ^ min (Int.toNat 8) IntKind.u32.bits)=a / 256:=by rw [sC]; rfl
theorem dk (a:Int):a.fdiv (2 ^ min (Int.toNat 16) IntKind.u32.bits)=a / 65536:=by rw [sC]; rfl
theorem dy (a:Int):a.fdiv (2 ^ min (Int.toNat 24) IntKind.u32.bits)=a / 16777216:=by rw [sC]; rfl
theorem c0 (a:Int):a.fdiv (2 ^ min (Int.toNat 8) IntKind.i64.bits)=a / 256:=by rw [sC]; rfl
def Ca (x y c:Int):Int:=IntKind.u32.wrap (IntKind.u32.wrap (x - y) - c)
def GF (x y c:Int):Int:=(IntKind.u32.wrap ((BitVec.ofInt 32 (IntKind.u32.wrap ((BitVec.ofInt 32 (IntKind.u32.wrap ((BitVec.ofInt 32 (4294967295:Int) ^^^ BitVec.ofInt 32 x).toNat:Int)) &&& BitVec.ofInt 32 y).toNat:Int)) |||
 BitVec.ofInt 32 (IntKind.u32.wrap ((BitVec.ofInt 32 (IntKind.u32.wrap ((BitVec.ofInt 32 (4294967295:Int) ^^^ BitVec.ofInt 32 (IntKind.u32.wrap ((BitVec.ofInt 32 x ^^^ BitVec.ofInt 32 y).toNat:Int))).toNat:Int)) &&&
  BitVec.ofInt 32 (Ca x y c)).toNat:Int))).toNat:Int)).fdiv (2 ^ 31)
theorem Lz {x y c:Nat} (hx:x < 4294967296) (hy:y < 4294967296) (hc:c≤1):Ca x y c=((x+2*4294967296 - y - c) % 4294967296:Nat):=by
 unfold Ca;rw [wA,wA]; omega
theorem TC {x y c:Nat} (hx:x < 4294967296) (hy:y < 4294967296) (hc:c≤1):GF x y c=if x < y+c then 1 else 0:=by
 unfold GF;rw [Lz hx hy hc];simp only [E3,UQ,sC];rw [show (2:Int) ^ 31=2147483648 by decide,Wa,Sf x y c hx hy hc _ rfl]
 simp
theorem Wc {x k:Nat} (h1:2 ^ k≤x) (J:x < 2 ^ (k+1)):x.log2=k:=by
 have hx:x≠0:=by have:=Nat.pow_pos (n:=k) (show 0 < 2 by decide); omega
 have a1:=(Nat.log2_lt hx).2 J;have a2:=(Nat.le_log2 hx).2 h1;omega
def eY (x:Nat):Nat:=if x=0 then 0 else x.log2+1
theorem F8 (x:Nat):x < 2 ^ eY x:=by
 unfold eY
 split
 ·omega
 ·rename_i h; exact (Nat.log2_lt h).1 (Nat.lt_succ_self _)
theorem JK {x:Nat} (h:x≠0):2 ^ (eY x - 1)≤x:=by
 unfold eY;rw [if_neg h];exact (Nat.le_log2 h).1 (Nat.le_refl _)
theorem Wd {x k:Nat} (h1:x < 2 ^ k) (J:k=0∨2 ^ (k - 1)≤x):eY x=k:=by
 rcases J with rfl | J
 ·have:x=0:=by simpa using h1
  subst this; rfl
 ·by_cases h0:k=0
  ·subst h0;have:x=0:=by simpa using h1
   subst this; rfl
  ·have hx:x≠0:=by have:=Nat.pow_pos (n:=k - 1) (show 0 < 2 by decide); omega
   unfold eY;rw [if_neg hx,Wc J (by rw [show k - 1+1=k by omega]; exact h1)]
   omega
theorem A1 {x k:Nat} (h:2 ^ k≤x):eY x=k+eY (x / 2 ^ k):=by
 have hp:=Nat.pow_pos (n:=k) (show 0 < 2 by decide)
 have hq:x / 2 ^ k≠0:=by have:=Nat.div_pos h hp; omega
 have hb:0 < eY (x / 2 ^ k):=by unfold eY; rw [if_neg hq]; omega
 refine Wd ?_ (.inr ?_)
 ·have:=F8 (x / 2 ^ k);rw [Nat.pow_add,Nat.mul_comm];exact (Nat.div_lt_iff_lt_mul hp).1 this
 ·have:=JK hq;rw [show k+eY (x / 2 ^ k) - 1=k+(eY (x / 2 ^ k) - 1) by omega,Nat.pow_add,Nat.mul_comm]
  exact (Nat.le_div_iff_mul_le hp).1 this
theorem dn (x y:Nat) (hx:x < 4294967296) (hy:y < 4294967296):IntKind.u64.wrap ((BitVec.ofInt IntKind.u64.bits ((x:Int)*4294967296) ||| BitVec.ofInt IntKind.u64.bits (y:Int)).toNat:Int)=(x:Int)*4294967296+y:=by
 have h:=Wb x y hx hy;have:IntKind.u64.wrap ((BitVec.ofInt 64 ((x:Int)*4294967296) ||| BitVec.ofInt 64 (y:Int)).toNat:Int)=(x:Int)*4294967296+y:=by
  rw [h,bL (by omega) (by omega)]; omega
 exact this
theorem We (x y:Nat) (hx:x < 36028797018963968) (hy:y < 256):((BitVec.ofInt 64 ((x:Int)*256) ||| BitVec.ofInt 64 (y:Int)).toNat:Int)=(x*256+y:Nat):=by
 have e1:BitVec.ofInt 64 ((x:Int)*256)=BitVec.ofNat 64 (x*256):=by
  rw [← BitVec.ofInt_natCast]; congr 1
 rw [e1,BitVec.ofInt_natCast,BitVec.toNat_or,BitVec.toNat_ofNat,BitVec.toNat_ofNat,Nat.mod_eq_of_lt (by omega),Nat.mod_eq_of_lt (by omega)]
 have:=Nat.shiftLeft_add_eq_or_of_lt (i:=8) (b:=y) (by simpa using hy) x
 rw [Nat.shiftLeft_eq] at this;have J:(2:Nat) ^ 8=256:=by decide
 rw [J] at this;rw [← this]
theorem dG (x y:Nat) (hx:x < 36028797018963968) (hy:y < 256):IntKind.i64.wrap ((BitVec.ofInt IntKind.i64.bits ((x:Int)*256) ||| BitVec.ofInt IntKind.i64.bits (y:Int)).toNat:Int)=(x:Int)*256+y:=by
 have h:=We x y hx hy;have:IntKind.i64.wrap ((BitVec.ofInt 64 ((x:Int)*256) ||| BitVec.ofInt 64 (y:Int)).toNat:Int)=(x:Int)*256+y:=by
  rw [h,ar (by omega) (by omega)]; omega
 exact this
theorem toNat_cast (n:Nat):((n:Int)).toNat=n:=Int.toNat_natCast n
theorem Wf {x:Nat} (h:x < 256):eY x≤8:=by
 unfold eY
 split
 ·omega
 ·rename_i h0; have:=(Nat.log2_lt h0).2 (show x < 2 ^ 8 from h); omega
theorem Mj {x:Nat} (h:x < 4294967296):eY x≤32:=by
 unfold eY
 split
 ·omega
 ·rename_i h0; have:=(Nat.log2_lt h0).2 (show x < 2 ^ 32 from h); omega
theorem dN (c:Nat):ui c 0=c:=by
 unfold ui;cases h:decide (c=aK) with
 | true=>exact (of_decide_eq_true h).symm
 | false=>rfl
theorem toNat_0:Int.toNat 0=0:=rfl
theorem toNat_1:Int.toNat 1=1:=rfl
theorem GG (x y k:Nat) (hx:x < 2 ^ k):x ||| (y*2 ^ k)=x+y*2 ^ k:=by
 have:=Nat.shiftLeft_add_eq_or_of_lt hx y;rw [Nat.shiftLeft_eq] at this;rw [Nat.or_comm,← this,Nat.add_comm]
theorem Sg (x y e:Nat) (hx:x < 256 ^ e) (hy:y < 256) (he:e < 4):IntKind.u32.wrap ((BitVec.ofInt IntKind.u32.bits (x:Int) ||| BitVec.ofInt IntKind.u32.bits (IntKind.u32.wrap ((y:Int)*2 ^ (min (8*e) IntKind.u32.bits)))).toNat:Int)=((x+y*256 ^ e:Nat):Int):=by
 have hp:(256:Nat) ^ e=2 ^ (8*e):=by rw [show (256:Nat)=2 ^ 8 from rfl,← Nat.pow_mul]
 have ak:x+y*2 ^ (8*e) < 4294967296:=by
  have h1:(y+1)*2 ^ (8*e)≤256*2 ^ (8*e):=Nat.mul_le_mul_right _ hy;have J:256*2 ^ (8*e)≤4294967296:=by
   have:2 ^ (8*e)≤2 ^ 24:=Nat.pow_le_pow_right (by decide) (by omega)
   omega
  rw [Nat.add_mul] at h1;rw [hp] at hx;omega
 have qY:x < 2 ^ (8*e):=by rw [← hp]; exact hx
 have e1:IntKind.u32.wrap ((y:Int)*2 ^ (min (8*e) 32))=((y*2 ^ (8*e):Nat):Int):=by
  rw [show min (8*e) 32=8*e by omega]
  have:((y*2 ^ (8*e):Nat):Int)=(y:Int)*2 ^ (8*e):=by simp
  rw [← this,c8 (by omega) (by omega)]
 have key:IntKind.u32.wrap ((BitVec.ofInt 32 (x:Int) ||| BitVec.ofInt 32 (IntKind.u32.wrap ((y:Int)*2 ^ (min (8*e) 32)))).toNat:Int)=((x+y*256 ^ e:Nat):Int):=by
  rw [e1,E3,BitVec.toNat_or,toNat_ofInt32 _ (by omega),toNat_ofInt32 _ (by omega),GG _ _ _ qY,hp]
 exact key
theorem NL {N n:Nat} (h:N < B ^ n) (J:n=0∨B ^ (n - 1)≤N):nl N=n:=by
 rcases J with rfl | J
 ·have:=jT h; omega
 ·have h3:=jT h;rcases Nat.lt_or_ge (nl N) n with h4 | h4
  ·have h5:B ^ nl N≤B ^ (n - 1):=Nat.pow_le_pow_right (by decide) (by omega)
   have:=bV N;omega
  ·omega
theorem CX (n:Nat):B ^ n=C ^ (4*n):=by rw [Nat.pow_mul]; rfl
theorem NM (N:Nat):nl N=(aQ N+3) / 4:=by
 refine NL ?_ ?_
 ·rw [CX];exact Nat.lt_of_lt_of_le (lL N) (Nat.pow_le_pow_right (by decide) (by omega))
 ·by_cases h:N=0
  ·left; subst h; rw [wB]
  ·right
   have:=F7 h;rw [CX];exact Nat.le_trans (Nat.pow_le_pow_right (by decide) (by omega)) (QX h)
theorem TD (N i:Nat):cF (N % C ^ i) (i / 4) (al (N % C ^ i) (i / 4)+N / C ^ i % C*256 ^ (i % 4))=N % C ^ (i+1)∧al (N % C ^ i) (i / 4) < 256 ^ (i % 4):=by
 have hB:B ^ (i / 4)*256 ^ (i % 4)=C ^ i:=by
  rw [CX,← Nat.pow_add]; congr 1; omega
 have ak:N % C ^ i < C ^ i:=Nat.mod_lt _ (gQ i);have hl:al (N % C ^ i) (i / 4) < 256 ^ (i % 4):=by
  have h1:N % C ^ i / B ^ (i / 4) < 256 ^ (i % 4):=(Nat.div_lt_iff_lt_mul (dV _)).2 (by rw [Nat.mul_comm,hB]; exact ak)
  unfold al;exact Nat.lt_of_le_of_lt (Nat.mod_le _ _) h1
 refine ⟨?_,hl⟩;have h:=pU (N % C ^ i) (i / 4) (al (N % C ^ i) (i / 4)+N / C ^ i % C*256 ^ (i % 4));have e:N % C ^ (i+1)=N % C ^ i+C ^ i*(N / C ^ i % C):=by rw [Nat.pow_succ,Nat.mod_mul]
 have e2:N / C ^ i % C*256 ^ (i % 4)*B ^ (i / 4)=C ^ i*(N / C ^ i % C):=by
  rw [Nat.mul_assoc,Nat.mul_comm (256 ^ (i % 4)),hB,Nat.mul_comm]
 rw [Nat.add_mul,e2] at h;omega
theorem dI (a:Nat):((a:Int)).tdiv 4=((a / 4:Nat):Int):=rfl
theorem dR (a:Nat):((a:Int)).tmod 4=((a % 4:Nat):Int):=rfl
theorem dP (a:Nat):(8:Int)*(a:Int)=((8*a:Nat):Int):=by omega
theorem dS {m:Nat} (h:0 < m):(m:Int) - 1=((m - 1:Nat):Int):=by omega
theorem dT (m:Nat):(m:Int)+1=((m+1:Nat):Int):=by omega
theorem dW {a b:Nat} (h:b≤a):(a:Int) - (b:Int)=((a - b:Nat):Int):=by omega
theorem dX (a b:Nat):(a:Int)+(b:Int)=((a+b:Nat):Int):=by omega
theorem dU (a:Nat):(8:Int)*(a:Int)=((8*a:Nat):Int):=by omega
theorem UR {Q L m r:Nat} (hL:L < B) (hr:r < m):(Q*B+L) / C ^ (m+4 - 1 - r) % C=Q / C ^ (m - 1 - r) % C:=by
 have e:C ^ (m+4 - 1 - r)=B*C ^ (m - 1 - r):=by
  rw [show m+4 - 1 - r=4+(m - 1 - r) by omega,Nat.pow_add]; rfl
 rw [e,← Nat.div_div_eq_div_mul];have:(Q*B+L) / B=Q:=by rw [Nat.mul_comm,Nat.mul_add_div (by decide),Nat.div_eq_of_lt hL,Nat.add_zero]
 rw [this]
theorem US {Q L e:Nat} (he:e≤3):(Q*B+L) / C ^ e % C=L / C ^ e % C:=by
 have h:B=C ^ e*(C ^ (3 - e)*C):=by
  rw [← Nat.mul_assoc,← Nat.pow_add,← Nat.pow_succ,show (e+(3 - e)).succ=4 by omega]; rfl
 rw [show Q*B=C ^ e*(Q*C ^ (3 - e)*C) by rw [h,Nat.mul_comm Q,Nat.mul_assoc,Nat.mul_comm (C ^ (3 - e)*C) Q,Nat.mul_assoc Q]]
 rw [Nat.mul_add_div (gQ _),Nat.mul_add_mod_self_right]
theorem M5:∀ {n Y r:Nat} (h:r < n),(pM n Y)[r]?=some (UInt8.ofNat (Y / C ^ (n - 1 - r) % C))
 | n+1,Y,r,h=>by
  unfold pM;by_cases hr:r < n
  ·rw [List.getElem?_append_left (by rw [v7]; exact hr),M5 hr,Nat.div_div_eq_div_mul,← Nat.pow_succ']
   congr 5; omega
  ·have:r=n:=by omega
   subst this;rw [List.getElem?_append_right (by rw [v7]; exact Nat.le_refl _),v7]
   simp
theorem v8 {g:Nat→List Value} {m X:Nat} (h:∀ r,r < m→g r=[.int .u8 ((X / C ^ (m - 1 - r) % C:Nat):Int)]):(⟨⟨bytesOf g 0 m⟩⟩:ByteArray)=be m X:=by
 unfold be
 congr 2
 apply List.ext_getElem?;intro r;by_cases hr:r < m
 ·rw [M5 hr];unfold bytesOf;rw [List.getElem?_map,List.getElem?_range hr];simp only [Option.map_some,Nat.zero_add,h r hr,toNat_cast]
 ·rw [List.getElem?_eq_none (l:=pM m X) (by rw [v7]; omega),List.getElem?_eq_none (by simp [bytesOf]; omega)]
theorem dm (a:Int):a*2 ^ min (Int.toNat 32) IntKind.u64.bits=a*4294967296:=rfl
theorem dQ (a:Int):a*2 ^ min (Int.toNat 8) IntKind.i64.bits=a*256:=rfl
theorem Ot (L:Nat):IntKind.u8.wrap ((L:Int) / 16777216)=((L / C ^ 3 % C:Nat):Int):=by rw [lI]; rfl
theorem Ou (L:Nat):IntKind.u8.wrap ((L:Int) / 65536)=((L / C ^ 2 % C:Nat):Int):=by rw [lI]; rfl
theorem O9 (L:Nat):IntKind.u8.wrap ((L:Int) / 256)=((L / C ^ 1 % C:Nat):Int):=by rw [lI]; rfl
theorem Pa (L:Nat):IntKind.u8.wrap (L:Int)=((L / C ^ 0 % C:Nat):Int):=by rw [lI,Nat.pow_zero,Nat.div_one]; rfl
theorem KR {N i m:Nat} {g:Nat→List Value} (hi:0 < i) (hg:∀ r,r < m→g r=[.int .u8 ((N / B ^ i / C ^ (m - 1 - r) % C:Nat):Int)]) {L0 L1 L2 L3:List Value}
  (h0:L0=[.int .u8 ((al N (i - 1) / C ^ 3 % C:Nat):Int)]) (h1:L1=[.int .u8 ((al N (i - 1) / C ^ 2 % C:Nat):Int)]) (J:L2=[.int .u8 ((al N (i - 1) / C ^ 1 % C:Nat):Int)]) (h3:L3=[.int .u8 ((al N (i - 1) / C ^ 0 % C:Nat):Int)]) :
  ∀ r,r < m+4→iD g m (fun j=>[L0,L1,L2,L3].getD j []) r=[.int .u8 ((N / B ^ (i - 1) / C ^ (m+4 - 1 - r) % C:Nat):Int)]:=by
 intro r hr;have hd:=pZ N (i - 1);rw [show i - 1+1=i by omega] at hd
 have hd:N / B ^ (i - 1)=N / B ^ i*B+al N (i - 1):=by rw [hd,Nat.add_comm,Nat.mul_comm]
 by_cases h:r < m
 ·rw [jh h,hg r h,hd,UR (cH _ _) h]
 ·rw [gr (by omega),hd,US (by omega)]
  have:r - m=0∨r - m=1∨r - m=2∨r - m=3:=by omega
  rcases this with e | e | e | e <;> rw [e]
  ·rw [show m+4 - 1 - r=3 by omega]; exact h0
  ·rw [show m+4 - 1 - r=2 by omega]; exact h1
  ·rw [show m+4 - 1 - r=1 by omega]; exact J
  ·rw [show m+4 - 1 - r=0 by omega]; exact h3
theorem AQ {Y i d:Nat} (hY:Y < B ^ i):cF Y i d=Y+d*B ^ i:=by
 have h:=pU Y i d;rw [tT hY (Nat.le_refl _),Nat.zero_mul,Nat.add_zero] at h;exact h
theorem RD {x y b d b' P K Y u v:Nat} (hY:Y < P) (he:u+b*P=Y+v) (hd:x+b'*K=y+b+d) (dE:d < K):Y+d*P < P*K∧u+x*P+b'*(P*K)=Y+d*P+(v+y*P):=by
 have h1:(x+b'*K)*P=(y+b+d)*P:=by rw [hd]
 rw [Nat.add_mul,Nat.add_mul,Nat.add_mul] at h1;have J:b'*(P*K)=b'*K*P:=by rw [Nat.mul_comm P,Nat.mul_assoc]
 have h3:(d+1)*P≤P*K:=by rw [Nat.mul_comm P]; exact Nat.mul_le_mul_right _ dE
 rw [Nat.add_mul,Nat.one_mul] at h3;rw [J];exact ⟨by omega,by omega⟩
theorem Sh {A D Y b i d b':Nat} (hY:Y < B ^ i) (he:A % B ^ i+b*B ^ i=Y+D % B ^ i) (hd:al A i+b'*B=al D i+b+d) (dE:d < B) :
  cF Y i d < B ^ (i+1)∧A % B ^ (i+1)+b'*B ^ (i+1)=cF Y i d+D % B ^ (i+1):=by
 rw [AQ hY,mod_succ A i,mod_succ D i,Nat.pow_succ];exact RD hY he hd dE
theorem mo {Z j d m:Nat} (hZ:Z < B ^ m) (hj:j < m) (hd:d < B):cF Z j d < B ^ m:=by
 have h1:(cF Z j d) / B ^ m=0:=by
  have e:B ^ m=B ^ j*(B*B ^ (m - j - 1)):=by
   rw [← Nat.mul_assoc,← Nat.pow_succ,← Nat.pow_add,show j+1+(m - j - 1)=m by omega]
  have ha:Z % B ^ j < B ^ j:=Nat.mod_lt _ (dV j);unfold cF;rw [e,← Nat.div_div_eq_div_mul,oN ha,← Nat.div_div_eq_div_mul,oN hd,Nat.div_div_eq_div_mul,← Nat.pow_add,show j+1+(m - j - 1)=m by omega]
  exact Nat.div_eq_of_lt hZ
 rcases Nat.lt_or_ge (cF Z j d) (B ^ m) with h | h
 ·exact h
 ·have:=Nat.div_pos h (dV m);omega
theorem Kl {Z Z' l c x d P Q K t Y v:Nat} (he:Z+c*(P*Q)=Y+x*v*P) (hs:Z'+l*(P*Q)=Z+t % K*(P*Q)) (ht:t=c+(x*d+l)) :
  Z'+t / K*(P*Q*K)=Y+x*(v+d*Q)*P:=by
 have h1:=Nat.mod_add_div t K;have J:(t % K+K*(t / K))*(P*Q)=(c+(x*d+l))*(P*Q):=by rw [h1,ht]
 rw [Nat.add_mul,Nat.add_mul,Nat.add_mul] at J;have e1:K*(t / K)*(P*Q)=t / K*(P*Q*K):=by
  rw [Nat.mul_comm K,Nat.mul_assoc,Nat.mul_comm K]
 have e2:x*(v+d*Q)*P=x*v*P+x*d*(P*Q):=by
  rw [Nat.mul_add,Nat.add_mul,← Nat.mul_assoc x d Q,Nat.mul_assoc (x*d),Nat.mul_comm Q P]
 rw [e1] at J;rw [e2];generalize t / K*(P*Q*K)=a1 at *;generalize t % K*(P*Q)=a2 at *;generalize c*(P*Q)=a3 at *;generalize x*d*(P*Q)=a4 at *;generalize l*(P*Q)=a5 at *;generalize x*v*P=a6 at *;omega
theorem Km {c x d l K t:Nat} (hc:c < K) (hx:x < K) (hd:d < K) (hl:l < K) (ht:t=c+(x*d+l)):t / K < K∧t < K*K:=by
 have h1:(x+1)*(d+1)≤K*K:=Nat.mul_le_mul hx hd;have J:t < K*K:=by
  rw [Nat.add_mul,Nat.mul_add] at h1;by_cases hk:K=0
  ·omega
  ·have h3:x*d≤(K - 1)*(K - 1):=Nat.mul_le_mul (by omega) (by omega)
   obtain ⟨k,rfl⟩:∃ k,K=k+1:=⟨K - 1,by omega⟩
   rw [Nat.add_sub_cancel] at h3;have e:(k+1)*(k+1)=k*k+k+k+1:=by rw [Nat.add_mul,Nat.mul_add]; omega
   omega
 exact ⟨(Nat.div_lt_iff_lt_mul (by omega)).2 J,J⟩
theorem Si {Z c x D i k t Y:Nat} (he:Z+c*B ^ (i+k)=Y+x*(D % B ^ k)*B ^ i) (ht:t=c+(x*al D k+al Z (i+k))) :
  cF Z (i+k) (t % B)+t / B*B ^ (i+(k+1))=Y+x*(D % B ^ (k+1))*B ^ i:=by
 have hs:=pU Z (i+k) (t % B);rw [mod_succ D k,← Nat.add_assoc,Nat.pow_succ];rw [Nat.pow_add] at he hs ⊢;exact Kl he hs ht
theorem TE {A D Y Z c i n:Nat} (hY:Y=A % B ^ i*D) (hD:D < B ^ n) (hZ:Z < B ^ (i+n)) (he:Z+c*B ^ (i+n)=Y+al A i*(D % B ^ n)*B ^ i) :
  cF Z (i+n) c=A % B ^ (i+1)*D:=by
 rw [AQ hZ,he,Nat.mod_eq_of_lt hD,hY,mod_succ,Nat.add_mul,Nat.mul_assoc (al A i),Nat.mul_comm D,← Nat.mul_assoc]
theorem TF {c x d l t:Nat} (hc:c < B) (hx:x < B) (hd:d < B) (hl:l < B) (ht:t=c+(x*d+l)) :
  IntKind.u64.wrap ((c:Int)+IntKind.u64.wrap (IntKind.u64.wrap (IntKind.u64.wrap (x:Int)*IntKind.u64.wrap (d:Int))+IntKind.u64.wrap (l:Int)))=(t:Int):=by
 have hB:B=4294967296:=rfl;have h:=(Km hc hx hd hl ht).2;have hm:((x:Int)*(d:Int))=((x*d:Nat):Int):=by simp
 rw [bL (x:=(x:Int)) (by omega) (by omega),bL (x:=(d:Int)) (by omega) (by omega),bL (x:=(l:Int)) (by omega) (by omega),hm]
 generalize x*d=m at *;rw [hB] at h;rw [bL (x:=(m:Int)) (by omega) (by omega),bL (x:=(m:Int)+(l:Int)) (by omega) (by omega),bL (by omega) (by omega)]
 omega
theorem eh (t:Nat):IntKind.u32.wrap (t:Int)=((t % B:Nat):Int):=by rw [wA]; rfl
theorem jU (t:Nat):(t:Int) / 4294967296=((t / B:Nat):Int):=rfl
open Go
def u32 (n:Nat):Value:=.int .u32 n
def i64 (n:Int):Value:=.int .i64 n
def uo:bD:={ ι:=Nat × Nat × Nat,args:=fun i=>[.int .u32 i.1,.int .u32 i.2.1,.int .u32 i.2.2],pre:=fun i=>i.1 < 4294967296∧i.2.1 < 4294967296∧i.2.2≤1,val:=fun i=>.tuple ⟨[.int .u32 ((i.1+i.2.1+i.2.2) % 4294967296:Nat),.int .u32 ((i.1+i.2.1+i.2.2) / 4294967296:Nat)]⟩ }
def lM:bD:={ ι:=Nat × Nat × Nat,args:=fun i=>[.int .u32 i.1,.int .u32 i.2.1,.int .u32 i.2.2],pre:=fun i=>i.1 < 4294967296∧i.2.1 < 4294967296∧i.2.2≤1,val:=fun i=>.tuple ⟨[.int .u32 ((i.1+2*4294967296 - i.2.1 - i.2.2) % 4294967296:Nat),.int .u32 (if i.1 < i.2.1+i.2.2 then 1 else 0:Nat)]⟩ }
def Cb:bD:={ ι:=Nat × Nat × Nat,args:=fun i=>[.int .u32 i.1,.int .u32 i.2.1,.int .u32 i.2.2],pre:=fun i=>i.1 < i.2.2∧i.2.1 < 4294967296∧i.2.2 < 4294967296,val:=fun i=>.tuple ⟨[.int .u32 ((i.1*4294967296+i.2.1) / i.2.2:Nat),.int .u32 ((i.1*4294967296+i.2.1) % i.2.2:Nat)]⟩ }
def GH:bD:={ ι:=Nat,args:=fun x=>[.int .u32 x],pre:=fun x=>x < 4294967296,val:=fun x=>.int .i64 (eY x:Nat) }
def Cv:bD:={ ι:=Nat,args:=fun x=>[.int .u32 x],pre:=fun x=>x < 4294967296,val:=fun x=>.int .i64 (32 - eY x:Nat) }
def Ac:Nat:=1099511627776
def kX:bD:={ ι:=ByteArray,args:=fun s=>[.string s],pre:=fun s=>s.size≤1099511627776,val:=fun s=>.string (nb (ab s)) }
abbrev LV:=Option (Nat × Nat × Nat)
def LV.val:LV→Value
 | none=>.slice none 0 0
 | some (n,_,c)=>.slice (some ⟨0,0,none⟩) n c
def LV.aj:LV→List ah
 | none=>[]
 | some (n,N,_)=>[.flat false n 1 (bo N)]
def LV.num:LV→Nat
 | none=>0
 | some (_,N,_)=>N
def LV.ok:LV→Prop
 | none=>True
 | some (n,N,_)=>N < 4294967296 ^ n∧n≤274877906944
def LV.cut:LV→Value
 | none=>.slice none 0 0
 | some (_,N,c)=>.slice (some ⟨0,0,none⟩) (nl N) c
def sD:cI:={ ι:=LV,args:=fun i=>[i.val],aj:=LV.aj,pre:=LV.ok,val:=LV.cut,new:=fun _=>none }
def yJ:cI:={ ι:=LV,args:=fun i=>[i.val],aj:=LV.aj,pre:=LV.ok,val:=fun i=>.string (nb i.num),new:=fun _=>none }
def uH:cI:={ ι:=ByteArray,args:=fun s=>[.string s],aj:=fun _=>[],pre:=fun s=>s.size≤1099511627776,val:=fun s=>.slice (some ⟨0,0,none⟩) (nl (ab s)) aK,new:=fun s=>some (.flat false (nl (ab s)) 1 (bo (ab s))) }
def uI:cI:={ ι:=Bool × LV,args:=fun i=>[.bool i.1,i.2.val],aj:=fun i=>i.2.aj,pre:=fun i=>i.2.ok,val:=fun i=>.agg ⟨[.bool (i.1 && i.2.num != 0),.string (nb i.2.num)]⟩,new:=fun _=>none }
def two (A ca D cd:Nat):List Value:=[.slice (some ⟨0,0,none⟩) (nl A) ca,.slice (some ⟨1,0,none⟩) (nl D) cd]
def kC (A D:Nat):List ah:=[.flat false (nl A) 1 (bo A),.flat false (nl D) 1 (bo D)]
abbrev I2:=Nat × Nat × Nat × Nat
def yK (i:I2):Prop:=nl i.1≤137438953472∧nl i.2.2.1≤137438953472
def cM (A D:Nat):Int:=if A < D then -1 else if D < A then 1 else 0
def wC:cI:={ ι:=I2,args:=fun i=>two i.1 i.2.1 i.2.2.1 i.2.2.2,aj:=fun i=>kC i.1 i.2.2.1,pre:=yK,val:=fun i=>.int .i64 (cM i.1 i.2.2.1),new:=fun _=>none }
def lu (id N:Nat):Value:=.slice (some ⟨id,0,none⟩) (nl N) aK
def dK (N:Nat):ah:=.flat false (nl N) 1 (bo N)
def Cw:cI:={ ι:=I2,args:=fun i=>two i.1 i.2.1 i.2.2.1 i.2.2.2,aj:=fun i=>kC i.1 i.2.2.1,pre:=yK,val:=fun i=>lu 2 (i.1+i.2.2.1),new:=fun i=>some (dK (i.1+i.2.2.1)) }
def Cc:cI:={ ι:=I2,args:=fun i=>two i.1 i.2.1 i.2.2.1 i.2.2.2,aj:=fun i=>kC i.1 i.2.2.1,pre:=fun i=>yK i∧i.2.2.1≤i.1,val:=fun i=>lu 2 (i.1 - i.2.2.1),new:=fun i=>some (dK (i.1 - i.2.2.1)) }
def Cd:cI:={ ι:=I2,args:=fun i=>two i.1 i.2.1 i.2.2.1 i.2.2.2,aj:=fun i=>kC i.1 i.2.2.1,pre:=yK,val:=fun i=>lu 2 (i.1*i.2.2.1),new:=fun i=>some (dK (i.1*i.2.2.1)) }
open Go
theorem KS {Y c P K a d x y t:Nat} (he:Y+c*P=a+d) (ht:t=c+x+y):Y+t % K*P+t / K*(P*K)=(a+x*P)+(d+y*P):=by
 have h:=Nat.mod_add_div t K;have e1:t*P=t % K*P+t / K*(P*K):=by
  calc t*P=(t % K+K*(t / K))*P:=by rw [h]
   _=t % K*P+t / K*(P*K):=by rw [Nat.add_mul,Nat.mul_comm K,Nat.mul_assoc,Nat.mul_comm K P]
 have e2:t*P=c*P+x*P+y*P:=by rw [ht,Nat.add_mul,Nat.add_mul]
 omega
theorem LA {X D Y c i t:Nat} (he:Y+c*B ^ i=X % B ^ i+D % B ^ i) (ht:t=c+al X i+al D i) :
  Y+t % B*B ^ i+t / B*B ^ (i+1)=X % B ^ (i+1)+D % B ^ (i+1):=by
 rw [mod_succ X i,mod_succ D i,Nat.pow_succ];exact KS he ht
theorem v9 {Y d i:Nat} (hY:Y < B ^ i) (hd:d < B):Y+d*B ^ i < B ^ (i+1):=by
 have h:(d+1)*B ^ i≤B*B ^ i:=Nat.mul_le_mul_right _ hd;rw [Nat.pow_succ,Nat.mul_comm (B ^ i) B];rw [Nat.add_mul] at h;omega
theorem UT {Y d i:Nat} (hY:Y < B ^ i) (hd:d < B) {r:Nat} (hr:r < i+1):al (Y+d*B ^ i) r=if r < i then al Y r else d:=by
 rw [← AQ hY,Fu hd]
 split <;> split <;> first | rfl | omega
theorem BL {Y d i:Nat} (hY:Y < B ^ i) (hd:d < B) {g:Nat→List Value} (hg:∀ r,r < i→g r=bo Y r) :
  ∀ r,r < i+1→iD g i (fun j=>[[Value.int .u32 (d:Nat)]].getD j []) r=bo (Y+d*B ^ i) r:=by
 intro r hr;have h:=UT hY hd hr;by_cases h1:r < i
 ·rw [jh h1,hg r h1];rw [if_pos h1] at h;simp [bo,h]
 ·rw [gr (by omega),show r - i=0 by omega]
  rw [if_neg h1] at h;simp [bo,h]
theorem Bp {a b:Nat} (ha:a < 4611686018427387904) (hb:b < 4611686018427387904):IntKind.u64.wrap ((a:Int)+IntKind.u64.wrap (b:Int))=((a+b:Nat):Int):=by
 rw [bL (x:=(b:Int)) (by omega) (by omega),bL (by omega) (by omega)]; omega
open Go
theorem KT {A d i t:Nat} (hd:0 < d) (ht:t=A / B ^ (i+1) % d*B+al A i) :
  A / B ^ i % d=t % d∧A / B ^ i / d=A / B ^ (i+1) / d*B+t / d:=by
 have h:=pZ A i;have J:=Nat.mod_add_div (A / B ^ (i+1)) d;have e:A / B ^ i=t+d*(A / B ^ (i+1) / d*B):=by
  rw [h,ht];have:B*(A / B ^ (i+1))=B*(A / B ^ (i+1) % d)+d*(A / B ^ (i+1) / d*B):=by
   conv=>lhs; rw [← J]
   rw [Nat.mul_add,Nat.mul_comm (A / B ^ (i+1) / d) B,Nat.mul_left_comm]
  rw [this,Nat.mul_comm B (A / B ^ (i+1) % d)];omega
 constructor
 ·rw [e,Nat.add_mul_mod_self_left]
 ·rw [e,Nat.add_mul_div_left _ _ hd]; omega
theorem J4 (K i:Nat):al (K*B ^ (i+1)) i=0:=by
 unfold al;rw [Nat.pow_succ,Nat.mul_comm (B ^ i),← Nat.mul_assoc,Nat.mul_div_cancel _ (dV i)];exact Nat.mul_mod_left _ _
theorem DR {Y i d:Nat} (h:al Y i=0):cF Y i d=Y+d*B ^ i:=by
 have:=pU Y i d;rw [h] at this;omega
theorem TG {A d i t:Nat} (hd:0 < d) (ht:t=A / B ^ (i+1) % d*B+al A i):cF (A / B ^ (i+1) / d*B ^ (i+1)) i (t / d)=A / B ^ i / d*B ^ i:=by
 rw [DR (J4 _ _),(KT hd ht).2,Nat.pow_succ,Nat.add_mul,Nat.mul_assoc,Nat.mul_comm B]
theorem UU {A d i t:Nat} (hd:0 < d) (ht:t=A / B ^ (i+1) % d*B+al A i):t / d < B:=by
 have h1:=Nat.mod_lt (A / B ^ (i+1)) hd;have J:=cH A i;refine (Nat.div_lt_iff_lt_mul hd).2 ?_;have h3:(A / B ^ (i+1) % d+1)*B≤d*B:=Nat.mul_le_mul_right _ h1;rw [Nat.mul_comm d B] at h3;rw [Nat.add_mul] at h3;omega
theorem wD {s:Nat} (h:s≤31):2 ^ s≤2147483648:=Nat.le_trans (Nat.pow_le_pow_right (by decide) h) (by decide:2 ^ 31≤2147483648)
theorem Wg {s l:Nat} (hs:s≤31) (hl:l < B):IntKind.u64.wrap ((l:Int)*2 ^ min s IntKind.u64.bits)=((l*2 ^ s:Nat):Int):=by
 have h:=wD hs;have e:min s IntKind.u64.bits=s:=by show min s 64=s; omega
 rw [e];have J:l*2 ^ s≤4294967296*2147483648:=Nat.mul_le_mul (Nat.le_of_lt hl) h;have:((l*2 ^ s:Nat):Int)=(l:Int)*2 ^ s:=by simp
 rw [← this,bL (by omega) (by omega)]
theorem M6 {s l:Nat} (hs:s≤31):(l:Int).fdiv (2 ^ min s IntKind.u64.bits)=((l / 2 ^ s:Nat):Int):=by
 have e:min s IntKind.u64.bits=s:=by show min s 64=s; omega
 rw [e,sC];simp
theorem Y1 {u l s:Nat} (hs:s≤31) (hu:u < 2 ^ s):IntKind.u32.wrap ((BitVec.ofInt IntKind.u32.bits (u:Int) ||| BitVec.ofInt IntKind.u32.bits ((l*2 ^ s % B:Nat):Int)).toNat:Int)=((u+l*2 ^ s % B:Nat):Int):=by
 have h:=wD hs;have hv:l*2 ^ s % B < 4294967296:=Nat.mod_lt _ (by decide)
 have e:l*2 ^ s % B=(l % 2 ^ (32 - s))*2 ^ s:=by
  have:B=2 ^ (32 - s)*2 ^ s:=by rw [← Nat.pow_add,show 32 - s+s=32 by omega]
  rw [this,Nat.mul_mod_mul_right]
 have key:IntKind.u32.wrap ((BitVec.ofInt 32 (u:Int) ||| BitVec.ofInt 32 ((l*2 ^ s % B:Nat):Int)).toNat:Int)=((u+l*2 ^ s % B:Nat):Int):=by
  rw [E3,BitVec.toNat_or,toNat_ofInt32 _ (by omega),toNat_ofInt32 _ hv,e,GG _ _ _ hu]
 exact key
theorem Ov {u l s:Nat} (hs:s≤31) (hu:u < 2 ^ s):u+l*2 ^ s % B < B:=by
 have h:=wD hs;have hv:l*2 ^ s % B < 2 ^ 32:=Nat.mod_lt _ (by decide)
 have e:l*2 ^ s % B=(l % 2 ^ (32 - s))*2 ^ s:=by
  have:B=2 ^ (32 - s)*2 ^ s:=by rw [← Nat.pow_add,show 32 - s+s=32 by omega]
  rw [this,Nat.mul_mod_mul_right]
 rw [e] at hv ⊢;rw [← GG _ _ _ hu];exact Nat.or_lt_two_pow (n:=32) (Nat.lt_of_lt_of_le hu (by omega)) hv
theorem KU {A s i:Nat}:al (A % B ^ i*2 ^ s) i < 2 ^ s:=by
 refine Nat.lt_of_le_of_lt (Nat.mod_le _ _) ?_;refine (Nat.div_lt_iff_lt_mul (dV i)).2 ?_;rw [Nat.mul_comm];exact Nat.mul_lt_mul_of_pos_left (Nat.mod_lt _ (dV i)) (Nat.pow_pos (by decide))
theorem UW {A s i:Nat} (hs:s≤31):A % B ^ i*2 ^ s < B ^ (i+1):=by
 have h:=wD hs;rw [Nat.pow_succ];exact Nat.mul_lt_mul_of_lt_of_le (Nat.mod_lt _ (dV i)) (by show _≤4294967296; omega) (by decide)
theorem Sj {A s i:Nat} (hs:s≤31):cF (cF (A % B ^ i*2 ^ s) i (al (A % B ^ i*2 ^ s) i+al A i*2 ^ s % B)) (i+1) (al A i*2 ^ s / B)=A % B ^ (i+1)*2 ^ s:=by
 have ak:=UW (A:=A) (i:=i) hs;have IY:=Ov (l:=al A i) hs (KU (A:=A) (s:=s) (i:=i));have h1:=pU (A % B ^ i*2 ^ s) i (al (A % B ^ i*2 ^ s) i+al A i*2 ^ s % B);rw [Nat.add_mul] at h1;have e1:cF (A % B ^ i*2 ^ s) i (al (A % B ^ i*2 ^ s) i+al A i*2 ^ s % B)=A % B ^ i*2 ^ s+al A i*2 ^ s % B*B ^ i:=by omega
 have J:al (cF (A % B ^ i*2 ^ s) i (al (A % B ^ i*2 ^ s) i+al A i*2 ^ s % B)) (i+1)=0:=by
  rw [Fu IY,if_neg (by omega)]
  exact tT ak (Nat.le_refl _)
 rw [DR J,e1,mod_succ,Nat.add_mul,Nat.pow_succ];have h3:=Nat.mod_add_div (al A i*2 ^ s) B;have h4:al A i*B ^ i*2 ^ s=(al A i*2 ^ s % B+B*(al A i*2 ^ s / B))*B ^ i:=by rw [h3,Nat.mul_right_comm]
 rw [h4,Nat.add_mul,Nat.add_assoc]
 congr 1
 rw [Nat.mul_comm (B ^ i) B,← Nat.mul_assoc,Nat.mul_comm B (al A i*2 ^ s / B)]
theorem Rd {A s i:Nat} (hs:s≤31):al (A / 2 ^ s) i=(al A i+al A (i+1)*B) / 2 ^ s % B:=by
 obtain ⟨w,hw⟩:∃ w,w=al A i+al A (i+1)*B:=⟨_,rfl⟩;have e:A / B ^ i=w+(B*B)*(A / B ^ (i+1+1)):=by
  rw [pZ A i,pZ A (i+1),Nat.mul_add,Nat.mul_comm B (al A (i+1)),Nat.mul_assoc,hw,← Nat.add_assoc]
 rw [← hw];show A / 2 ^ s / B ^ i % B=_
 rw [Nat.div_div_eq_div_mul,Nat.mul_comm (2 ^ s),← Nat.div_div_eq_div_mul,e];have hB:B=2 ^ s*2 ^ (32 - s):=by rw [← Nat.pow_add,show s+(32 - s)=32 by omega]
 have:B*B*(A / B ^ (i+1+1))=2 ^ s*(B*(2 ^ (32 - s)*(A / B ^ (i+1+1)))):=by
  conv=>lhs; rw [Nat.mul_assoc]; lhs; rw [hB]
  rw [Nat.mul_assoc,Nat.mul_left_comm (2 ^ (32 - s)) B]
 rw [this,Nat.add_mul_div_left _ _ (Nat.pow_pos (by decide)),Nat.add_mul_mod_self_left]
theorem UX {x y:Nat} (hx:x < 4294967296) (hy:y < 4294967296):IntKind.u64.wrap ((BitVec.ofInt IntKind.u64.bits (y:Int) ||| BitVec.ofInt IntKind.u64.bits ((x:Int)*4294967296)).toNat:Int)=((y+x*B:Nat):Int):=by
 rw [BitVec.or_comm,dn x y hx hy];show _=(((y+x*4294967296:Nat)):Int)
 omega
theorem TH {W D P q:Nat} (hD:0 < D) (hP:0 < P) (h:W / P < q*(D / P)):W / D < q:=by
 refine (Nat.div_lt_iff_lt_mul hD).2 ?_;have h1:W < (W / P+1)*P:=by
  rw [Nat.mul_comm]; exact Nat.lt_mul_div_succ W hP
 have J:(W / P+1)*P≤q*(D / P)*P:=Nat.mul_le_mul_right _ h;have h3:q*(D / P)*P≤q*D:=by
  rw [Nat.mul_assoc]; exact Nat.mul_le_mul_left _ (Nat.div_mul_le_self _ _)
 omega
theorem Sk {W D P q K:Nat} (hP:0 < P) (h:q*(D / P)≤W / P) (hq:q≤K) (hK:K*P≤D):q≤W / D+1:=by
 rcases Nat.eq_zero_or_pos q with h0 | h0
 ·rw [h0]; exact Nat.zero_le _
 by_cases hD:D=0
 ·have hK0:K*P=0:=by omega
  rcases Nat.mul_eq_zero.1 hK0 with h | h <;> omega
 have h1:D < (D / P+1)*P:=by
  rw [Nat.mul_comm]; exact Nat.lt_mul_div_succ D hP
 have J:q*D < q*((D / P+1)*P):=Nat.mul_lt_mul_of_pos_left h1 h0;have e2:q*((D / P+1)*P)=q*(D / P)*P+q*P:=by rw [Nat.add_mul,Nat.mul_add,Nat.one_mul,Nat.mul_assoc]
 have h3:q*(D / P)*P≤W / P*P:=Nat.mul_le_mul_right _ h;have h4:W / P*P≤W:=Nat.div_mul_le_self _ _;have h5:q*P≤K*P:=Nat.mul_le_mul_right _ hq;have h6:q*D < W+D:=by omega
 have h7:(q - 1)*D≤W:=by
  rw [Nat.sub_mul,Nat.one_mul]; omega
 have:=(Nat.le_div_iff_mul_le (by omega:0 < D)).2 h7
 omega
theorem Fw (X j k:Nat):al (X / B ^ j) k=al X (j+k):=by
 unfold al;rw [Nat.div_div_eq_div_mul,← Nat.pow_add]
theorem yy {W k:Nat} (h:W < B ^ (k+1)):al W k=W / B ^ k:=by
 unfold al;refine Nat.mod_eq_of_lt ((Nat.div_lt_iff_lt_mul (dV k)).2 ?_);rw [Nat.mul_comm,← Nat.pow_succ]; exact h
theorem ac8 {W k:Nat} (h:W < B ^ (k+2)):W / B ^ k=al W (k+1)*B+al W k:=by
 rw [pZ W k,← yy h,Nat.mul_comm,Nat.add_comm]
theorem Mk {q d1 d0 r w0 K top:Nat} (he:q*d1+r=top):(q*(d1*K+d0)≤top*K+w0↔q*d0≤r*K+w0):=by
 have e:top*K=q*(d1*K)+r*K:=by rw [← he,Nat.add_mul,Nat.mul_assoc]
 rw [Nat.mul_add,e];omega
theorem KV {Z Z' v P l d t low c' c b b' x q X v' K:Nat} (he:Z+v=X+(b+c)*P) (hs:Z'+l*P=Z+d*P) (ht:t=c+q*x) (pN:t=low+K*c') (hd:l+b'*K=low+b+d) (hv:v'=v+q*x*P) :
  Z'+v'=X+(b'+c')*(P*K):=by
 have e1:t*P=c*P+q*x*P:=by rw [ht,Nat.add_mul]
 have e2:t*P=low*P+c'*(P*K):=by rw [pN,Nat.add_mul,Nat.mul_comm K,Nat.mul_assoc,Nat.mul_comm K P]
 have e3:l*P+b'*(P*K)=low*P+b*P+d*P:=by
  have:=congrArg (·*P) hd;simp only [Nat.add_mul] at this;rw [Nat.mul_assoc b' K P,Nat.mul_comm K P] at this;exact this
 rw [Nat.add_mul] at he ⊢;omega
theorem A8 {X Z D q c b b' i j t d:Nat} (he:Z+q*(D % B ^ i)*B ^ j=X+(b+c)*B ^ (j+i)) (ht:t=c+q*al D i) (hd:al Z (j+i)+b'*B=t % B+b+d) :
  cF Z (j+i) d+q*(D % B ^ (i+1))*B ^ j=X+(b'+t / B)*B ^ (j+(i+1)):=by
 have ep:B ^ (j+(i+1))=B ^ (j+i)*B:=rfl;rw [ep];refine KV he (pU Z (j+i) d) ht (Nat.mod_add_div t B).symm hd ?_;rw [mod_succ,Nat.mul_add,Nat.add_mul,Nat.pow_add,← Nat.mul_assoc q (al D i),Nat.mul_comm (B ^ j) (B ^ i),Nat.mul_assoc (q*al D i)]
theorem A9 {X Z D q c b b' n j d:Nat} (hD:D < B ^ n) (hc:c < B) (he:Z+q*(D % B ^ n)*B ^ j=X+(b+c)*B ^ (j+n)) (hd:al Z (j+n)+b'*B=c+b+d) :
  cF Z (j+n) d+q*(D*B ^ j)=X+b'*B ^ (j+n+1):=by
 rw [Nat.mod_eq_of_lt hD] at he;have:=KV (K:=B) (x:=0) (t:=c) (c':=0) (low:=c) (q:=q) (v':=q*D*B ^ j) he (pU Z (j+n) d) (by omega) (by omega) hd (by omega)
 rw [← Nat.mul_assoc,this,Nat.pow_succ]
 rfl
theorem Sl {Z Z' v P l c x t Y v' K:Nat} (he:Z+c*P=Y+v) (hs:Z'+l*P=Z+t % K*P) (ht:t=l+x+c) (hv:v'=v+x*P):Z'+t / K*(P*K)=Y+v':=by
 have h:=Nat.mod_add_div t K;have e1:t*P=t % K*P+t / K*(P*K):=by
  calc t*P=(t % K+K*(t / K))*P:=by rw [h]
   _=t % K*P+t / K*(P*K):=by rw [Nat.add_mul,Nat.mul_comm K,Nat.mul_assoc,Nat.mul_comm K P]
 have e2:t*P=l*P+x*P+c*P:=by rw [ht,Nat.add_mul,Nat.add_mul]
 omega
theorem Ba {Y Z D c i j t:Nat} (he:Z+c*B ^ (j+i)=Y+D % B ^ i*B ^ j) (ht:t=al Z (j+i)+al D i+c) :
  cF Z (j+i) (t % B)+t / B*B ^ (j+(i+1))=Y+D % B ^ (i+1)*B ^ j:=by
 have ep:B ^ (j+(i+1))=B ^ (j+i)*B:=rfl;rw [ep];refine Sl he (pU Z (j+i) (t % B)) ht ?_;rw [mod_succ,Nat.add_mul,Nat.pow_add,Nat.mul_comm (B ^ j),Nat.mul_assoc]
theorem AR {X Z E q:Nat} (hE:0 < E) (h:Z+q*E=X) (hq:X / E≤q):q=X / E∧Z=X % E:=by
 have h1:q≤X / E:=(Nat.le_div_iff_mul_le hE).2 (by omega)
 have J:q=X / E:=by omega
 refine ⟨J,?_⟩;have:=Nat.mod_add_div X E;rw [J,Nat.mul_comm] at h;omega
theorem AS {X Z E q M:Nat} (hE:0 < E) (h:Z+q*E=X+M) (hZ:Z < M) (hq:q≤X / E+1):q=X / E+1∧Z+E=X % E+M:=by
 have h1:X < q*E:=by omega
 have J:X / E < q:=(Nat.div_lt_iff_lt_mul hE).2 h1;have h3:q=X / E+1:=by omega
 refine ⟨h3,?_⟩;have:=Nat.mod_add_div X E;rw [h3,Nat.add_mul,Nat.one_mul,Nat.mul_comm] at h;omega
theorem Bb {V R c k:Nat} (hV:V < B ^ (k+1)) (hR:R < B ^ k) (hc:c≤1) (h:V+c*B ^ k=R+B ^ (k+1)):cF V k ((al V k+c) % B)=R:=by
 have vz:c=1:=by
  rcases Nat.eq_zero_or_pos c with h0 | h0
  ·subst h0; omega
  ·omega
 subst vz;have e:V=R+(B - 1)*B ^ k:=by
  rw [Nat.pow_succ,Nat.mul_comm (B ^ k) B] at h;rw [Nat.sub_mul];have:1*B ^ k≤B*B ^ k:=Nat.mul_le_mul_right _ (by decide)
  omega
 have e2:al V k=B - 1:=by
  rw [yy hV,e,Nat.add_mul_div_right _ _ (dV k),Nat.div_eq_of_lt hR,Nat.zero_add]
 have J:=pU V k ((al V k+1) % B);have e3:(B - 1+1) % B=0:=by decide
 rw [e2,e3] at J;rw [e2,e3];omega
theorem RE {X D j n n1 n2:Nat} (J:n2=nl D) (h0:n2=n+2) (h1:n1=n+1) (hd:2147483648≤al D n1) (hX:X < D*B ^ (j+1)) :
  X / B ^ j / B ^ n=(al X (j+n2)*B+al X (j+n1))*B+al X (j+n)∧D / B ^ n=al D n1*B+al D n∧X / B ^ j / D < B∧B*B ^ n≤D ∧
  X / B ^ j / D≤(al X (j+n2)*B+al X (j+n1)) / al D n1∧(al X (j+n2)*B+al X (j+n1)) / al D n1≤B+1∧X < B ^ (j+n2+1):=by
 subst h1;have hD:D < B ^ (n+2):=by have:=bV D; rw [← J,h0] at this; exact this
 have Dv:=yy (W:=D) (k:=n+1) hD;have Ad:0 < D:=by
  rcases Nat.eq_zero_or_pos D with h | h
  ·subst h; rw [EZ] at hd; omega
  ·exact h
 have hW:X / B ^ j < D*B:=by
  refine (Nat.div_lt_iff_lt_mul (dV j)).2 ?_;rw [Nat.mul_assoc,Nat.mul_comm B,← Nat.pow_succ]; exact hX
 have hW3:X / B ^ j < B ^ (n+1+2):=by
  have e:B ^ (n+1+2)=B ^ (n+2)*B:=rfl;rw [e];exact Nat.lt_of_lt_of_le hW (Nat.mul_le_mul_right _ (Nat.le_of_lt hD))
 have ht:=ac8 hW3;rw [Fw,Fw] at ht;have pN:X / B ^ j / B ^ (n+1)=al X (j+n2)*B+al X (j+(n+1)):=by rw [h0]; exact ht
 obtain ⟨top,uW⟩:∃ top,top=al X (j+n2)*B+al X (j+(n+1)):=⟨_,rfl⟩;rw [← uW] at pN ⊢;have hw:=pZ (X / B ^ j) n;rw [pN,Fw] at hw;have c6:=pZ D n;rw [← Dv] at c6;obtain ⟨W,hWd⟩:∃ W,W=X / B ^ j:=⟨_,rfl⟩;obtain ⟨d1,gd⟩:∃ d1,d1=al D (n+1):=⟨_,rfl⟩;rw [← hWd] at hw pN hW ⊢;rw [← gd] at c6 hd Dv ⊢;have zR:d1*B ^ (n+1)≤D:=by rw [Dv]; exact Nat.div_mul_le_self _ _
 have dC:D < (d1+1)*B ^ (n+1):=by rw [Dv,Nat.mul_comm]; exact Nat.lt_mul_div_succ _ (dV _)
 refine ⟨?_,?_,?_,?_,?_,?_,?_⟩
 ·rw [hw,Nat.mul_comm B top,Nat.add_comm]
 ·rw [c6,Nat.mul_comm B d1,Nat.add_comm]
 ·exact (Nat.div_lt_iff_lt_mul Ad).2 (by rw [Nat.mul_comm]; exact hW)
 ·have e:B*B ^ n=1*B ^ (n+1):=by rw [Nat.pow_succ,Nat.mul_comm,Nat.one_mul]
  rw [e];exact Nat.le_trans (Nat.mul_le_mul_right _ (by omega)) zR
 ·refine (Nat.le_div_iff_mul_le (by omega)).2 ?_
  rw [← pN];refine (Nat.le_div_iff_mul_le (dV _)).2 ?_;rw [Nat.mul_assoc];exact Nat.le_trans (Nat.mul_le_mul_left _ zR) (Nat.div_mul_le_self _ _)
 ·have h5:top < (d1+1)*B:=by
   rw [← pN];refine (Nat.div_lt_iff_lt_mul (dV _)).2 ?_;have:D*B≤(d1+1)*B ^ (n+1)*B:=Nat.mul_le_mul_right _ (Nat.le_of_lt dC);rw [Nat.mul_right_comm] at this;exact Nat.lt_of_lt_of_le hW this
  have h6:top / d1 < B+2:=by
   refine (Nat.div_lt_iff_lt_mul (by omega)).2 ?_
   rw [Nat.add_mul,Nat.mul_comm B d1];rw [Nat.add_mul] at h5;have:B=4294967296:=rfl;omega
  omega
 ·have e:B ^ (j+n2+1)=B ^ (n+2)*B ^ (j+1):=by rw [← Nat.pow_add]; congr 1; omega
  rw [e];exact Nat.lt_of_lt_of_le hX (Nat.mul_le_mul_right _ (Nat.le_of_lt hD))
structure Y2 (X D j n n2 top d1 d0 w0 Q q0:Nat):Prop where
 fW:X / B ^ j / B ^ n=top*B+w0
 fD:D / B ^ n=d1*B+d0
 fQ:Q=X / B ^ j / D
 fB:Q < 4294967296
 fP:B*B ^ n≤D
 fq:Q≤q0
 P8:q0≤4294967297
 fX:X < B ^ (j+n2+1)
 Af:0 < D
theorem Y3 {X D j n n1 n2 top d1 d0 w0 Q q0:Nat} (J:n2=nl D) (h0:n2=n+2) (h1:n1=n+1) (hd:2147483648≤al D n1) (hX:X < D*B ^ (j+1))
  (ht:top=al X (j+n2)*4294967296+al X (j+n1)) (gd:d1=al D n1) (fx:d0=al D n) (hw:w0=al X (j+n)) (hQ:Q=X / B ^ j / D) (vC:q0=top / d1):Y2 X D j n n2 top d1 d0 w0 Q q0:=by
 have Ad:0 < D:=by
  rcases Nat.eq_zero_or_pos D with h | h
  ·rw [h,EZ] at hd; omega
  ·exact h
 subst ht gd fx hw hQ vC;obtain ⟨a,b,c,d,e,f,g⟩:=RE J h0 h1 hd hX;exact ⟨a,b,rfl,c,d,e,f,g,Ad⟩
theorem UY {W D P d1 d0 q r w0 top:Nat} (hD:0 < D) (hP:0 < P) (hW:W / P=top*B+w0) (IZ:D / P=d1*B+d0) (he:q*d1+r=top) (h:r*B+w0 < q*d0):W / D < q:=by
 refine TH hD hP ?_;rw [hW,IZ];exact Nat.lt_of_not_le fun hle=>Nat.not_le_of_lt h ((Mk he).1 hle)
theorem F9 {W D P d1 d0 q r w0 top:Nat} (hP:0 < P) (hW:W / P=top*B+w0) (IZ:D / P=d1*B+d0) (he:q*d1+r=top) (hq:q < B) (hK:B*P≤D) (fx:d0 < B) (h:B≤r∨q*d0≤r*B+w0):q≤W / D+1:=by
 refine Sk hP ?_ (Nat.le_of_lt hq) hK;rw [hW,IZ];refine (Mk he).2 ?_;rcases h with h | h
 ·have h1:q*d0≤B*B:=Nat.mul_le_mul (Nat.le_of_lt hq) (Nat.le_of_lt fx);have J:B*B≤r*B:=Nat.mul_le_mul_right _ h;omega
 ·exact h
theorem Fx (a b:Nat):Int.tdiv (a:Int) (b:Int)=((a / b:Nat):Int):=rfl
theorem Ml (a b:Nat):Int.tmod (a:Int) (b:Int)=((a % b:Nat):Int):=rfl
theorem abx {q x:Nat} (hq:q≤4294967297) (hx:x < 4294967296):IntKind.u64.wrap ((q:Int)*(x:Int))=((q*x:Nat):Int)∧q*x < 18446744073709551616:=by
 have h:=Nat.mul_le_mul hq (show x≤4294967295 by omega)
 have e:((q:Int)*(x:Int))=((q*x:Nat):Int):=by simp
 obtain ⟨p,hp⟩:∃ p,p=q*x:=⟨_,rfl⟩;rw [e,← hp];rw [← hp] at h;exact ⟨bL (by omega) (by omega),by omega⟩
theorem Bq {c q x t:Nat} (hc:c < B) (hq:q < B) (hx:x < B) (ht:t=c+q*x):IntKind.u64.wrap ((c:Int)+IntKind.u64.wrap ((q:Int)*(x:Int)))=(t:Int)∧t / B < B:=by
 have hB:B=4294967296:=rfl;have h:=Nat.mul_le_mul (show q≤4294967295 by omega) (show x≤4294967295 by omega)
 have e:((q:Int)*(x:Int))=((q*x:Nat):Int):=by simp
 obtain ⟨p,hp⟩:∃ p,p=q*x:=⟨_,rfl⟩;rw [e,← hp];rw [← hp] at h ht;constructor
 ·rw [bL (x:=(p:Int)) (by omega) (by omega),bL (by omega) (by omega),ht]; omega
 ·refine (Nat.div_lt_iff_lt_mul (by decide)).2 ?_
  rw [hB,ht]; omega
open Go
def one (A ca:Nat):Value:=.slice (some ⟨0,0,none⟩) (nl A) ca
abbrev I1:=Nat × Nat × Nat
def Ce:cI:={ ι:=I1,args:=fun i=>[one i.1 i.2.1,.int .u32 i.2.2],aj:=fun i=>[dK i.1],pre:=fun i=>nl i.1≤137438953472∧0 < i.2.2∧i.2.2 < 4294967296,val:=fun i=>.tuple ⟨[lu 1 (i.1 / i.2.2),.int .u32 (i.1 % i.2.2:Nat)]⟩,new:=fun i=>some (.flat true (nl i.1) 1 (bo (i.1 / i.2.2))) }
def Cf:cI:={ ι:=I1,args:=fun i=>[one i.1 i.2.1,.int .i64 i.2.2],aj:=fun i=>[dK i.1],pre:=fun i=>nl i.1≤137438953472∧i.2.2≤31,val:=fun i=>.slice (some ⟨1,0,none⟩) (nl i.1+1) (nl i.1+1),new:=fun i=>some (.flat true (nl i.1+1) 1 (bo (i.1*2 ^ i.2.2))) }
def Br:cI:={ ι:=I1,args:=fun i=>[one i.1 i.2.1,.int .i64 i.2.2],aj:=fun i=>[dK i.1],pre:=fun i=>nl i.1≤137438953472∧i.2.2≤31,val:=fun i=>lu 1 (i.1 / 2 ^ i.2.2),new:=fun i=>some (.flat true (nl i.1) 1 (bo (i.1 / 2 ^ i.2.2))) }
structure DI where
 (X m cx D cd j:Nat)
def w9:y9:={ ι:=DI,args:=fun i=>[.slice (some ⟨0,0,none⟩) i.m i.cx,.slice (some ⟨1,0,none⟩) (nl i.D) i.cd,.int .i64 i.j],aj:=fun i=>[.flat true i.m 1 (bo i.X),dK i.D],pre:=fun i=>i.m≤137438953473∧2≤nl i.D∧2147483648≤al i.D (nl i.D - 1)∧i.j+nl i.D < i.m∧i.X < i.D*B ^ (i.j+1),val:=fun i=>.int .u32 (i.X / (i.D*B ^ i.j):Nat),post:=fun i=>[.flat true i.m 1 (bo (i.X % (i.D*B ^ i.j))),dK i.D],new:=fun _=>[] }
theorem rL {i:DI} {N q:Nat} {H:aw} (h1:N=i.X % (i.D*B ^ i.j)) (J:q=i.X / (i.D*B ^ i.j)) (hH:H[0]?=some (some (.flat true i.m 1 (bo N)))):zt w9 i (.int .u32 (q:Nat)) H:=by
 refine ⟨[],List.nodup_nil,by simp,rfl,fun j b q' hb hq ho=>?_,by simp,_,rfl,by subst J; exact .refl _⟩
 match j with
 | 0 =>
  simp [w9] at hb hq;subst hq;exact ⟨_,hH,rfl,by rw [h1]; exact ⟨fun _=>⟨rfl,rfl⟩,rfl,Nat.le_refl _,fun _ _=>rfl,fun r hr v hv=>dz (l:=bo _ r) rfl v hv⟩⟩
 | 1 =>
  simp [w9] at hb;subst hb;cases ho
 | j+2=>simp [w9] at hb
def gF:y9:={ ι:=I2,args:=fun i=>two i.1 i.2.1 i.2.2.1 i.2.2.2,aj:=fun i=>kC i.1 i.2.2.1,pre:=fun i=>yK i∧i.2.2.1≠0,val:=fun i=>if i.1 < i.2.2.1 then .tuple ⟨[.slice none 0 0,one i.1 i.2.1]⟩ else .tuple ⟨[lu 2 (i.1 / i.2.2.1),lu 3 (i.1 % i.2.2.1)]⟩,post:=fun i=>kC i.1 i.2.2.1,new:=fun i=>if i.1 < i.2.2.1 then [] else [dK (i.1 / i.2.2.1),dK (i.1 % i.2.2.1)] }
open Go
theorem Sn {D n s:Nat} (hn:nl D=n+1) (hs:s=32 - eY (al D n)) :
  s≤31∧al D n≠0∧nl (D*2 ^ s)=n+1∧2147483648≤al (D*2 ^ s) n∧2147483648*B ^ n≤D*2 ^ s:=by
 have Ad:D≠0:=by intro h; rw [h,rY] at hn; omega
 have uW:al D n≠0:=by have:=UL Ad; rw [hn] at this; exact this
 obtain ⟨x,hx⟩:∃ x,x=al D n:=⟨_,rfl⟩;rw [← hx] at hs uW ⊢;have iy:x < 4294967296:=by rw [hx]; exact cH D n
 have hb:=Mj iy;have zR:1≤eY x:=by
  rcases Nat.eq_zero_or_pos (eY x) with h | h
  ·have:=F8 x; rw [h] at this; omega
  ·exact h
 have ak:=bV D;rw [hn] at ak;have P9:x=D / B ^ n:=by rw [hx]; exact yy ak
 have h1:=JK uW;have J:=F8 x;have e:2 ^ (eY x)*2 ^ s=4294967296:=by rw [← Nat.pow_add,show eY x+s=32 by omega]
 have e2:2 ^ (eY x - 1)*2 ^ s=2147483648:=by rw [← Nat.pow_add,show eY x - 1+s=31 by omega]
 have gX:2147483648*B ^ n≤D*2 ^ s:=by
  rw [← e2,Nat.mul_right_comm];refine Nat.mul_le_mul_right _ ?_;refine Nat.le_trans (Nat.mul_le_mul_right _ h1) ?_;rw [P9]; exact Nat.div_mul_le_self _ _
 have jz:D*2 ^ s < B ^ (n+1):=by
  have h3:D < (x+1)*B ^ n:=by rw [P9,Nat.mul_comm]; exact Nat.lt_mul_div_succ _ (dV n)
  have h4:D*2 ^ s < (x+1)*B ^ n*2 ^ s:=Nat.mul_lt_mul_of_pos_right h3 (Nat.pow_pos (by decide))
  have h5:(x+1)*B ^ n*2 ^ s≤2 ^ eY x*B ^ n*2 ^ s:=Nat.mul_le_mul_right _ (Nat.mul_le_mul_right _ J);rw [Nat.mul_right_comm (2 ^ eY x),e] at h5;have e3:B ^ (n+1)=4294967296*B ^ n:=by rw [Nat.pow_succ,Nat.mul_comm]
  rw [e3];exact Nat.lt_of_lt_of_le h4 h5
 have cD:nl (D*2 ^ s)=n+1:=by
  refine NL jz (.inr ?_);rw [Nat.add_sub_cancel];refine Nat.le_trans ?_ gX;exact Nat.le_mul_of_pos_left _ (by decide)
 refine ⟨by omega,uW,cD,?_,gX⟩
 rw [yy jz];exact (Nat.le_div_iff_mul_le (dV n)).2 gX
theorem RF {A s:Nat} (hs:s≤31):A*2 ^ s < B ^ (nl A)*2147483648:=by
 have h:=wD hs;exact Nat.mul_lt_mul_of_lt_of_le (bV A) h (by decide)
theorem TJ {A E n s k:Nat} (hs:s≤31) (gX:2147483648*B ^ n≤E) (hk:k=nl A - n) (hle:n≤nl A):A*2 ^ s < E*B ^ k:=by
 refine Nat.lt_of_lt_of_le (RF hs) ?_;have e:B ^ nl A*2147483648=2147483648*B ^ n*B ^ k:=by
  rw [Nat.mul_assoc,← Nat.pow_add,show n+k=nl A by omega,Nat.mul_comm]
 rw [e];exact Nat.mul_le_mul_right _ gX
theorem TL {V E Q U i:Nat} (hE:0 < E) (h:Q*E+U=V) (hU:U < E*B ^ (i+1)) (hQ:Q % B ^ (i+1)=0) :
  U / (E*B ^ i) < B∧cF Q i (U / (E*B ^ i))*E+U % (E*B ^ i)=V∧U % (E*B ^ i) < E*B ^ i∧cF Q i (U / (E*B ^ i)) % B ^ i=0:=by
 have hP:0 < E*B ^ i:=Nat.mul_pos hE (dV i);have hd:U / (E*B ^ i) < B:=by
  refine (Nat.div_lt_iff_lt_mul hP).2 ?_;rw [Nat.mul_comm,Nat.mul_assoc,← Nat.pow_succ]; exact hU
 obtain ⟨K,hK⟩:∃ K,Q=K*B ^ (i+1):=⟨Q / B ^ (i+1),by rw [Nat.mul_comm]; have:=Nat.mod_add_div Q (B ^ (i+1)); rw [hQ,Nat.zero_add] at this; exact this.symm⟩
 have hl:al Q i=0:=by rw [hK]; exact J4 K i
 rw [DR hl];refine ⟨hd,?_,Nat.mod_lt _ hP,?_⟩
 ·rw [Nat.add_mul,← h,Nat.add_assoc]
  congr 1
  rw [Nat.mul_assoc,Nat.mul_comm (B ^ i) E,Nat.mul_comm];exact Nat.div_add_mod U (E*B ^ i)
 ·rw [hK,Nat.pow_succ,Nat.mul_comm (B ^ i) B,← Nat.mul_assoc,← Nat.add_mul];exact Nat.mul_mod_left _ _
theorem UZ {A D s Q U:Nat} (hD:0 < D) (h:Q*(D*2 ^ s)+U=A*2 ^ s) (hU:U < D*2 ^ s):Q=A / D∧U=A % D*2 ^ s∧U / 2 ^ s=A % D:=by
 have hs:0 < 2 ^ s:=Nat.pow_pos (by decide)
 have hE:0 < D*2 ^ s:=Nat.mul_pos hD hs;have h1:A*2 ^ s / (D*2 ^ s)=Q:=by
  rw [← h,Nat.mul_comm Q];rw [Nat.mul_add_div hE,Nat.div_eq_of_lt hU,Nat.add_zero]
 have J:A*2 ^ s % (D*2 ^ s)=U:=by
  rw [← h,Nat.mul_comm Q,Nat.mul_add_mod,Nat.mod_eq_of_lt hU]
 rw [Nat.mul_div_mul_right _ _ hs] at h1;rw [Nat.mul_mod_mul_right] at J;refine ⟨h1.symm,J.symm,?_⟩;rw [← J,Nat.mul_div_cancel _ hs]
theorem So {N:Nat} (h:N < 4294967296):al N 0=N:=by
 unfold al;rw [Nat.pow_zero,Nat.div_one]; exact Nat.mod_eq_of_lt h
theorem Y4 {D:Nat} (h:nl D=1):al D 0=D∧D < 4294967296∧0 < D:=by
 have h1:=bV D;rw [h,Nat.pow_one] at h1;have h0:D≠0:=by intro e; rw [e,rY] at h; omega
 refine ⟨?_,h1,by omega⟩
 unfold al;rw [Nat.pow_zero,Nat.div_one]; exact Nat.mod_eq_of_lt h1
theorem TM {A ca D cd:Nat} {H:aw} (h:A < D):zt gF (A,ca,D,cd) (.tuple ⟨[.slice none 0 0,.slice (some ⟨0,0,none⟩) (nl A) ca]⟩) H:=by
 have e1:gF.val (A,ca,D,cd)=.tuple ⟨[.slice none 0 0,one A ca]⟩:=if_pos h;have e2:gF.new (A,ca,D,cd)=[]:=if_pos h;refine ⟨[],List.nodup_nil,by simp,by rw [e2]; rfl,fun j b q' hb hq ho=>?_,fun j p b hp=>by simp at hp,_,by rw [e1]; rfl,.refl _⟩
 match j with
 | 0=>simp [gF,kC] at hb; subst hb; cases ho
 | 1=>simp [gF,kC] at hb; subst hb; cases ho
 | j+2=>simp [gF,kC] at hb
theorem LB {A ca D cd q r c1 c2:Nat} {H:aw} {b1 b2:ah} (h:D≤A) (hq:2≤q) (hr:2≤r) (I0:q≠r)
  (h1:H[q]?=some (some b1)) (J:H[r]?=some (some b2)) (o1:b1.own=true) (o2:b2.own=true) (l1:aO (dK (A / D)) b1) (l2:aO (dK (A % D)) b2) :
  zt gF (A,ca,D,cd) (.tuple ⟨[.slice (some ⟨q,0,none⟩) (nl (A / D)) c1,.slice (some ⟨r,0,none⟩) (nl (A % D)) c2]⟩) H:=by
 have hn:¬ A < D:=by omega
 have e1:gF.val (A,ca,D,cd)=.tuple ⟨[lu 2 (A / D),lu 3 (A % D)]⟩:=if_neg hn;have e2:gF.new (A,ca,D,cd)=[dK (A / D),dK (A % D)]:=if_neg hn;refine ⟨[q,r],by simp [I0],fun p hp=>?_,by rw [e2]; rfl,fun j b q' hb hq ho=>?_,fun j p b hp hb=>?_,_,by rw [e1]; rfl,.two (.cap _ _ _ rfl) (.cap _ _ _ rfl)⟩
 ·simp at hp;show 2≤p
  omega
 ·match j with
  | 0=>simp [gF,kC] at hb; subst hb; cases ho
  | 1=>simp [gF,kC] at hb; subst hb; cases ho
  | j+2=>simp [gF,kC] at hb
 ·rw [e2] at hb
  match j with
  | 0=>simp at hp hb; subst hp hb; exact ⟨b1,h1,o1,l1⟩
  | 1=>simp at hp hb; subst hp hb; exact ⟨b2,J,o2,l2⟩
  | j+2=>simp at hb
theorem LC {x n:Nat} (hx:x < 4294967296) (hn:n≤1):aO (.flat false n 1 (bo x)) (.aL true 1 [[.int .u32 (x:Nat)]]):=by
 refine ⟨(fun h=>by cases h),rfl,hn,fun r hr=>?_,fun r hr v hv=>dz (l:=bo x r) rfl v hv⟩
 have h0:r=0:=by
  have:r < n:=hr;omega
 subst h0;show [Value.int .u32 (al x 0:Nat)]=[Value.int .u32 (x:Nat)]
 rw [So hx]
open Go
def aY (b:Bool) (N:Nat):Int:=if b then -(N:Int) else N
def lW (b:Bool) (N:Nat):Value:=.agg ⟨[.bool (b && N != 0),.string (nb N)]⟩
def aD (z:Int):Value:=.agg ⟨[.bool (decide (z < 0)),.string (nb z.natAbs)]⟩
theorem jk (b:Bool) (N:Nat):lW b N=aD (aY b N):=by
 unfold lW aD aY;cases b
 ·simp
 ·by_cases h:N=0
  ·subst h; simp
  ·have e:(N != 0)=true:=by simp [h]
   simp [e];omega
theorem U0 (b c:Bool) (M N:Nat):aY (b != c) (M*N)=aY b M*aY c N:=by
 cases b <;> cases c <;> simp [aY,Int.neg_mul,Int.mul_neg]
theorem Fy (b:Bool) (N:Nat):aY (!b) N=-aY b N:=by cases b <;> simp [aY]
theorem LD (b:Bool) (M N:Nat):aY b (M+N)=aY b M+aY b N:=by cases b <;> simp [aY] <;> omega
theorem Bc {b c:Bool} (h:b≠c) {M N:Nat} (hle:N≤M):aY b (M - N)=aY b M+aY c N:=by
 cases b <;> cases c <;> simp [aY] at h ⊢ <;> omega
theorem tU (b:Bool) (N:Nat):(aY b N).natAbs=N:=by cases b <;> simp [aY]
theorem E4 {b:Bool} {N:Nat}:aY b N=0↔N=0:=by cases b <;> simp [aY]
def dL (x y:Int):Int:=if x < y then -1 else if y < x then 1 else 0
theorem Bs (M N:Nat):dL (M:Int) (N:Int)=cM M N:=by
 unfold dL cM
 split <;> split <;> (try split) <;> (try split) <;> omega
theorem Mm (M N:Nat):dL (-(M:Int)) (-(N:Int))=cM N M:=by
 unfold dL cM
 split <;> split <;> (try split) <;> (try split) <;> omega
theorem TN (A D:Nat):nl (A*D)≤nl A+nl D:=jT (by
 rw [Nat.pow_add];exact Nat.mul_lt_mul_of_lt_of_le (bV A) (Nat.le_of_lt (bV D)) (dV _))
theorem LF (A D:Nat):nl (A+D)≤max (nl A) (nl D)+1:=jT (by
 have h1:=Nat.lt_of_lt_of_le (bV A) (Nat.pow_le_pow_right (show 0 < B by decide) (Nat.le_max_left (nl A) (nl D)))
 have J:=Nat.lt_of_lt_of_le (bV D) (Nat.pow_le_pow_right (show 0 < B by decide) (Nat.le_max_right (nl A) (nl D)))
 have e:B ^ (max (nl A) (nl D)+1)=B ^ (max (nl A) (nl D))*4294967296:=rfl;rw [e];generalize B ^ (max (nl A) (nl D))=K at *;omega)
theorem NN {N:Nat} (h:N < 18446744073709551616):N < 4294967296 ^ 2:=Nat.lt_of_lt_of_le h (by decide)
theorem Mn {N:Nat} (h:N < 18446744073709551616):al N 0=N % 4294967296∧al N 1=N / 4294967296:=by
 unfold al;rw [Nat.pow_zero,Nat.div_one,Nat.pow_one];exact ⟨rfl,Nat.mod_eq_of_lt (show N / 4294967296 < 4294967296 by omega)⟩
theorem M7 {N x:Nat} (h:N < 36028797018963968) (hx:x < 256):IntKind.i64.wrap ((BitVec.ofInt IntKind.i64.bits (IntKind.i64.wrap ((N:Int)*256)) ||| BitVec.ofInt IntKind.i64.bits (IntKind.i64.wrap (x:Int))).toNat:Int)=((N*256+x:Nat):Int):=by
 rw [ar (x:=(N:Int)*256) (by omega) (by omega),ar (x:=(x:Int)) (by omega) (by omega),dG N x h hx]
 omega
theorem Mo {N:Nat} (h:N < 18446744073709551616):aO (.flat false 2 1 (bo N)) (.aL true 1 [[.int .u32 (IntKind.u32.wrap (N:Int))],[.int .u32 (IntKind.u32.wrap ((N:Int).fdiv (2 ^ min (Int.toNat 32) IntKind.u64.bits)))]]):=by
 obtain ⟨h1,J⟩:=Mn h;refine ⟨(fun h=>by cases h),rfl,Nat.le_refl _,fun r hr=>?_,fun r hr v hv=>dz (l:=bo N r) rfl v hv⟩
 have hr:r < 2:=hr
 match r,hr with
 | 0,_ =>
  show [Value.int .u32 (al N 0:Nat)]=[Value.int .u32 (IntKind.u32.wrap (N:Int))]
  rw [h1,wA]; rfl
 | 1,_ =>
  show [Value.int .u32 (al N 1:Nat)]=[Value.int .u32 (IntKind.u32.wrap ((N:Int).fdiv (2 ^ min (Int.toNat 32) IntKind.u64.bits)))]
  rw [J,cf,c8 (by omega) (by omega)]; rfl
theorem tY {x y:Int} (h:x < y):dL x y=-1:=if_pos h
theorem tZ {x y:Int} (h:y < x):dL x y=1:=by
 unfold dL;rw [if_neg (by omega),if_pos h]
theorem Wh {N:Nat} (h:((nl N:Nat):Int) > 0):0 < N:=by
 rcases Nat.eq_zero_or_pos N with h0 | h0
 ·rw [h0,rY] at h; exact absurd h (by decide)
 ·exact h0
theorem Sp {N:Nat} (h:¬ ((nl N:Nat):Int) > 0):N=0:=KQ (by omega)
theorem wM {N:Nat} (h:0 < N):decide (((nl N:Nat):Int) > 0)=true:=decide_eq_true (by have:=yH (show N≠0 by omega); omega)
theorem wE {N:Nat} (h:N=0):decide (((nl N:Nat):Int) > 0)=false:=by rw [h,rY]; rfl
theorem CY {i:Nat} (h:i≤6):C ^ i≤281474976710656:=Nat.le_trans (Nat.pow_le_pow_right (by decide) h) (by decide)
theorem ob {i:Nat} (h:i≤7):C ^ i≤72057594037927936:=Nat.le_trans (Nat.pow_le_pow_right (by decide) h) (by decide)
theorem wk:aD 0=.agg ⟨[.bool false,.string ⟨#[]⟩]⟩:=by unfold aD; rw [Int.natAbs_zero,oS]; rfl
theorem AI {x y q r:Int} (hy:0 < y) (h:r+y*q=x) (h0:0≤r) (h1:r < y):x.fdiv y=q∧x.fmod y=r:=by
 have:=(Int.ediv_emod_unique hy).2 ⟨h,h0,h1⟩;rw [Int.fdiv_eq_ediv_of_nonneg _ (Int.le_of_lt hy),Int.fmod_eq_emod_of_nonneg _ (Int.le_of_lt hy)];exact this
theorem DP {x y q r:Int} (hy:y < 0) (h:r+y*q=x) (h0:r≤0) (h1:y < r):x.fdiv y=q∧x.fmod y=r:=by
 have J:=AI (x:=-x) (y:=-y) (q:=q) (r:=-r) (by omega) (by rw [← h,Int.neg_mul]; omega) (by omega) (by omega)
 rw [Int.neg_fdiv_neg] at J;refine ⟨J.1,?_⟩;rw [Int.fmod_def,J.1,← h];omega
theorem wm {b c:Bool} {A D:Nat} (hD:0 < D) (h:A % D=0∨b=c):(aY b A).fdiv (aY c D)=aY (b != c) (A / D)∧(aY b A).fmod (aY c D)=aY b (A % D):=by
 have hm:=Nat.mod_lt A hD;have he:((A % D:Nat):Int)+(D:Int)*((A / D:Nat):Int)=(A:Int):=by
  have:=Nat.mod_add_div A D;have J:=congrArg (fun n:Nat=>(n:Int)) this
  simpa using J
 cases b <;> cases c
 ·exact AI (by simp [aY]; omega) (by simpa [aY] using he) (by simp [aY]; omega) (by simp only [aY,Bool.false_eq_true,if_false]; omega)
 ·have h:A % D=0:=h.resolve_right (by simp)
  refine DP (by simp [aY]; omega) ?_ (by simp [aY,h]) (by simp [aY,h]; omega)
  rw [h] at he ⊢;simp only [aY,Bool.false_eq_true,if_false,if_true,bne,Bool.not_false,show ((false == true)=false) from rfl,Int.neg_mul_neg]
  exact he
 ·have h:A % D=0:=h.resolve_right (by simp)
  refine AI (by simp [aY]; omega) ?_ (by simp [aY,h]) (by simp [aY,h]; omega)
  rw [h] at he ⊢;simp only [aY,Bool.false_eq_true,if_false,if_true,bne,Bool.not_false,show ((true == false)=false) from rfl,Int.mul_neg]
  omega
 ·refine DP (by simp [aY]; omega) ?_ (by simp only [aY,if_true]; omega) (by simp only [aY,if_true]; omega)
  simp only [aY,if_true,bne,Bool.not_true,show ((true == true)=true) from rfl,Bool.false_eq_true,if_false,Int.neg_mul]
  omega
theorem EA {b c:Bool} {A D:Nat} (hD:0 < D) (h:A % D≠0) (pH:b≠c):(aY b A).fdiv (aY c D)=aY (b != c) (A / D) - 1∧(aY b A).fmod (aY c D)=aY b (A % D)+aY c D:=by
 have hm:=Nat.mod_lt A hD;have he:((A % D:Nat):Int)+(D:Int)*((A / D:Nat):Int)=(A:Int):=by
  have:=Nat.mod_add_div A D;have J:=congrArg (fun n:Nat=>(n:Int)) this
  simpa using J
 cases b <;> cases c
 ·exact absurd rfl pH
 ·refine DP (by simp [aY]; omega) ?_ (by simp only [aY,Bool.false_eq_true,if_false,if_true]; omega) (by simp only [aY,Bool.false_eq_true,if_false,if_true]; omega)
  simp only [aY,Bool.false_eq_true,if_false,if_true,bne,Bool.not_false,show ((false == true)=false) from rfl,Int.mul_sub,Int.neg_mul_neg,Int.mul_one]
  omega
 ·refine AI (by simp [aY]; omega) ?_ (by simp only [aY,Bool.false_eq_true,if_false,if_true]; omega) (by simp only [aY,Bool.false_eq_true,if_false,if_true]; omega)
  simp only [aY,Bool.false_eq_true,if_false,if_true,bne,Bool.not_false,show ((true == false)=false) from rfl,Int.mul_sub,Int.mul_neg,Int.mul_one]
  omega
 ·exact absurd rfl pH
theorem wF {N:Nat} (h:N=0):(!(nb N).toList == (⟨#[]⟩:ByteArray).toList)=false:=by rw [qk,h,oS]; simp
theorem wN {N:Nat} (h:N≠0):(!(nb N).toList == (⟨#[]⟩:ByteArray).toList)=true:=by
 rw [qk];have:nb N≠⟨#[]⟩:=fun e=>h (J2.1 e)
 simp [this]
abbrev IV:=Bool × ByteArray
def IV.v (i:IV):Value:=.agg ⟨[.bool i.1,.string i.2]⟩
def IV.z (i:IV):Int:=aY i.1 (ab i.2)
def IV.ok (i:IV):Prop:=i.2.size≤549755813888
theorem IV.nl {i:IV} (h:i.ok):nl (ab i.2)≤137438953472:=by
 rw [NM];have:=jg i.2;have h:i.2.size≤549755813888:=h;omega
theorem Cg (b:Bool) (N:Nat):IV.z (b && N != 0,nb N)=aY b N:=by
 show aY _ (ab (nb N))=_
 rw [ia];cases b
 ·rfl
 ·by_cases h:N=0
  ·subst h; rfl
  ·have e:(N != 0)=true:=by simp [h]
   rw [e]; rfl
theorem A2 {N:Nat} {s:ByteArray} (h:N≤ab s):(nb N).size≤s.size:=by
 rw [gE];exact Nat.le_trans (iO h) (jg s)
theorem GI:(nb 1).size≤1:=by rw [gE]; exact fj (by decide)
theorem NO (z:Int):IV.z (decide (z < 0),nb z.natAbs)=z:=by
 show aY _ (ab (nb z.natAbs))=z
 rw [ia];unfold aY;by_cases h:z < 0
 ·simp [h]; omega
 ·simp [h]; omega
theorem Ga {i:IV} (h:i.2.size≤7):-72057594037927936 < i.z∧i.z < 72057594037927936:=by
 have h1:=Nat.lt_of_lt_of_le (gu i.2) (ob h);unfold IV.z aY
 split <;> omega
def eT:bD:={ ι:=Int,args:=fun n=>[.int .i64 n],pre:=fun n=>-9223372036854775808≤n∧n < 9223372036854775808,val:=fun n=>aD n }
def wO:bD:={ ι:=IV,args:=fun i=>[i.v],pre:=IV.ok,val:=fun i=>.tuple ⟨[.int .i64 (if i.2.size≤7 then i.z else 0),.bool (decide (i.2.size≤7))]⟩ }
def gR:bD:={ ι:=IV,args:=fun i=>[i.v],pre:=IV.ok,val:=fun i=>aD (-i.z) }
abbrev kN:=IV × IV
def kN.ok (i:kN):Prop:=i.1.ok∧i.2.ok
def iW:bD:={ ι:=kN,args:=fun i=>[i.1.v,i.2.v],pre:=kN.ok,val:=fun i=>aD (i.1.z+i.2.z) }
def mJ:bD:={ ι:=kN,args:=fun i=>[i.1.v,i.2.v],pre:=kN.ok,val:=fun i=>aD (i.1.z - i.2.z) }
def fg:bD:={ ι:=kN,args:=fun i=>[i.1.v,i.2.v],pre:=kN.ok,val:=fun i=>aD (i.1.z*i.2.z) }
def lX:bD:={ ι:=kN,args:=fun i=>[i.1.v,i.2.v],pre:=kN.ok,val:=fun i=>.int .i64 (dL i.1.z i.2.z) }
def uX:bD:={ ι:=kN,args:=fun i=>[i.1.v,i.2.v],pre:=kN.ok,val:=fun i=>aD (Int.gcd i.1.z i.2.z:Nat) }
def iH:bD:={ ι:=kN,args:=fun i=>[i.1.v,i.2.v],pre:=kN.ok,val:=fun i=>.tuple ⟨[aD (i.1.z.fdiv i.2.z),aD (if i.2.z=0 then 0 else i.1.z.fmod i.2.z),.int .i64 (if i.2.z=0 then 10 else 0)]⟩ }
theorem yo {s:ByteArray} {i:Nat} (h:i < s.size):ab s / C ^ (s.size - (i+1))=ab s / C ^ (s.size - i)*256+bX s i:=by
 rw [tM h,show s.size - 1 - i=s.size - (i+1) by omega]
 have e:C ^ (s.size - i)=C ^ (s.size - (i+1))*C:=by rw [← Nat.pow_succ]; congr 1; omega
 rw [e,← Nat.div_div_eq_div_mul,Nat.mul_comm];exact (Nat.div_add_mod _ C).symm
theorem Ch (s:ByteArray) {i:Nat} (h:i≤s.size):ab s / C ^ (s.size - i) < C ^ i:=by
 refine (Nat.div_lt_iff_lt_mul (gQ _)).2 ?_;rw [← Nat.pow_add,show i+(s.size - i)=s.size by omega]
 exact gu s
open Go
def jm:bD:={ ι:=IV,args:=fun i=>[i.v],pre:=IV.ok,val:=fun i=>aD i.z }
def km:bD:={ ι:=ByteArray,args:=fun s=>[.string s],pre:=fun s=>s.size≤7,val:=fun s=>.int .i64 (ab s:Nat) }
def xc:bD:={ ι:=IV,args:=fun i=>[i.v],pre:=fun i=>i.2.size≤7,val:=fun i=>.int .i64 i.z }
def HR:bD:={ ι:=Nat,args:=fun n=>[.int .i64 n],pre:=fun n=>n < 9223372036854775808,val:=fun n=>.string (nb n) }
def r4:bD:={ ι:=Nat × Nat,args:=fun i=>[.string (nb i.1),.string (nb i.2)],pre:=fun i=>aQ i.1≤1099511627776∧aQ i.2≤1099511627776,val:=fun i=>.int .i64 (cM i.1 i.2) }
theorem drop_zero {u:ByteArray} (h1:u.size≠0) (J:bX u 0=0):ab (u.extract 1 u.size)=ab u∧(u.extract 1 u.size).size=u.size - 1:=by
 have h3:=tM (s:=u) (i:=0) (by omega)
 have h4:=gu u;refine ⟨?_,DV (by omega) (Nat.le_refl _)⟩
 rw [DZ (by omega) (Nat.le_refl _),Nat.sub_self,Nat.pow_zero,Nat.div_one]
 refine Nat.mod_eq_of_lt ?_;rw [J,Nat.sub_zero] at h3;have h5:ab u / C ^ (u.size - 1) < C:=(Nat.div_lt_iff_lt_mul (gQ _)).2 (by
  rw [Nat.mul_comm,← Nat.pow_succ,show (u.size - 1).succ=u.size by omega]; exact h4)
 rw [Nat.mod_eq_of_lt h5] at h3;rcases Nat.lt_or_ge (ab u) (C ^ (u.size - 1)) with h6 | h6
 ·exact h6
 ·have:=Nat.div_pos h6 (gQ _);omega
theorem Mp {N x:Nat} (h:N < 36028797018963968) (hx:x < 256):IntKind.i64.wrap ((BitVec.ofInt IntKind.i64.bits (IntKind.i64.wrap ((N:Int)*2 ^ min (Int.toNat 8) IntKind.i64.bits)) ||| BitVec.ofInt IntKind.i64.bits (IntKind.i64.wrap (x:Int))).toNat:Int)=((N*256+x:Nat):Int):=M7 h hx
theorem qm (t:Nat):IntKind.u8.wrap (t:Int)=((t % C:Nat):Int):=by rw [lI]; rfl
theorem D0 {g:Nat→List Value} {i m X:Nat} (h:∀ r,r < m→g (i+r)=[.int .u8 ((X / C ^ (m - 1 - r) % C:Nat):Int)]):(⟨⟨bytesOf g i m⟩⟩:ByteArray)=be m X:=by
 have e:bytesOf g i m=bytesOf (fun r=>g (i+r)) 0 m:=by
  unfold bytesOf;simp only [Nat.zero_add]
 rw [e];exact v8 h
theorem xt {N n:Nat} (h:N < C ^ n) (J:n=0∨C ^ (n - 1)≤N):nb N=be n N:=by
 unfold nb;rw [NJ h J]
theorem TO {b:Bool} {s:ByteArray} (h:0 < s.size) (J:bX s 0≠0):Value.agg ⟨[.bool b,.string s]⟩=aD (IV.z (b,s)):=by
 have h3:=yI (s:=s) (.inr J);have h4:ab s≠0:=by
  intro e;rw [e,oS] at h3;rw [h3] at h;exact absurd h (by decide)
 have e:=jk b (ab s);unfold lW at e;rw [← h3] at e;have e1:(ab s != 0)=true:=by simp [h4]
 rw [e1,Bool.and_true] at e;exact e
theorem Pb {n:Nat} (h:n < 9223372036854775808):n / C ^ 8=0:=Nat.div_eq_of_lt (Nat.lt_of_lt_of_le h (by decide))
theorem LG {A D:Nat} (h:(nb A).size < (nb D).size):A < D:=by
 rw [gE,gE] at h;exact Rc h
theorem TP {A D:Nat} (h:(nb A).size=(nb D).size):Op.bytesLess (nb A).toList (nb D).toList=decide (A < D):=by
 rw [UP h,ia,ia]
theorem TQ {A D:Nat}:((nb A).toList == (nb D).toList)=decide (A=D):=by
 rw [qk];by_cases h:A=D
 ·subst h; simp
 ·have:nb A≠nb D:=fun e=>h (NK e)
  simp [this,h]
theorem Fz (N:Nat):(!(nb N).toList == (⟨#[]⟩:ByteArray).toList)=(N != 0):=by
 by_cases h:N=0
 ·rw [wF h,h]; rfl
 ·rw [wN h]; simp [h]
theorem D1 (n k:Nat):n / C ^ k / 256=n / C ^ (k+1):=by rw [Nat.div_div_eq_div_mul,← Nat.pow_succ]
open Go
def bR (N i:Nat):Nat:=N / C ^ i % C
theorem qn (N i:Nat):bR N i < C:=Nat.mod_lt _ (by decide)
def kq (Y j d:Nat):Nat:=Y % C ^ j+C ^ j*(d+C*(Y / C ^ (j+1)))
theorem EB (Y j:Nat):Y=Y % C ^ j+C ^ j*(bR Y j+C*(Y / C ^ (j+1))):=by
 have h1:=Nat.mod_add_div Y (C ^ j);have J:=Nat.mod_add_div (Y / C ^ j) C;rw [Nat.div_div_eq_div_mul,← Nat.pow_succ] at J;unfold bR;rw [J,h1]
theorem KW (Y j d:Nat):kq Y j d+bR Y j*C ^ j=Y+d*C ^ j:=by
 have h:=EB Y j;unfold kq;rw [Nat.mul_add] at h ⊢;have e1:C ^ j*bR Y j=bR Y j*C ^ j:=Nat.mul_comm _ _;have e2:C ^ j*d=d*C ^ j:=Nat.mul_comm _ _;omega
theorem M8 {Y j d:Nat} (hd:d < C) (r:Nat):bR (kq Y j d) r=if r=j then d else bR Y r:=by
 have ha:Y % C ^ j < C ^ j:=Nat.mod_lt _ (gQ j);rcases Nat.lt_trichotomy r j with h | h | h
 ·rw [if_neg (by omega)]
  have key:∀ K,bR (Y % C ^ j+C ^ j*K) r=bR (Y % C ^ j) r:=by
   intro K;unfold bR;have e:C ^ j*K=C ^ r*(C*(C ^ (j - r - 1)*K)):=by
    rw [← Nat.mul_assoc,← Nat.mul_assoc,← Nat.pow_succ,← Nat.pow_add,show r+1+(j - r - 1)=j by omega]
   rw [e,Nat.add_mul_div_left _ _ (gQ r),Nat.add_mul_mod_self_left]
  have h1:=key (d+C*(Y / C ^ (j+1)));have J:=key (bR Y j+C*(Y / C ^ (j+1)));rw [← EB Y j] at J;unfold kq;rw [h1,J]
 ·subst h;rw [if_pos rfl];unfold kq bR;rw [oN ha,Nat.add_mul_mod_self_left,Nat.mod_eq_of_lt hd]
 ·rw [if_neg (by omega)]
  have key:∀ d',d' < C→bR (Y % C ^ j+C ^ j*(d'+C*(Y / C ^ (j+1)))) r=Y / C ^ (j+1) / C ^ (r - j - 1) % C:=by
   intro d' cS;unfold bR;have e:C ^ r=C ^ j*(C*C ^ (r - j - 1)):=by
    rw [← Nat.mul_assoc,← Nat.pow_succ,← Nat.pow_add,show j+1+(r - j - 1)=r by omega]
   rw [e,← Nat.div_div_eq_div_mul,oN ha,← Nat.div_div_eq_div_mul,oN cS]
  have h1:=key d hd;have J:=key (bR Y j) (qn Y j);rw [← EB Y j] at J;unfold kq;rw [h1,J]
theorem U1 (r:Nat):bR 0 r=0:=by simp [bR]
theorem Gb {N n:Nat} (h:N < C ^ n) {r:Nat} (hr:n≤r):bR N r=0:=by
 unfold bR;have:C ^ n≤C ^ r:=Nat.pow_le_pow_right (by decide) hr
 rw [Nat.div_eq_of_lt (by omega)]; rfl
theorem wo (N i:Nat):N % C ^ (i+1)=N % C ^ i+bR N i*C ^ i:=by
 unfold bR;rw [Nat.pow_succ,Nat.mod_mul];rw [Nat.mul_comm (C ^ i)]
theorem KX {Y i d:Nat} (hY:Y < C ^ i):kq Y i d=Y+d*C ^ i:=by
 have h:=KW Y i d;rw [Gb hY (Nat.le_refl _),Nat.zero_mul,Nat.add_zero] at h;exact h
theorem LH {Z j d m:Nat} (hZ:Z < C ^ m) (hj:j < m) (hd:d < C):kq Z j d < C ^ m:=by
 have h1:(kq Z j d) / C ^ m=0:=by
  have e:C ^ m=C ^ j*(C*C ^ (m - j - 1)):=by
   rw [← Nat.mul_assoc,← Nat.pow_succ,← Nat.pow_add,show j+1+(m - j - 1)=m by omega]
  have ha:Z % C ^ j < C ^ j:=Nat.mod_lt _ (gQ j);unfold kq;rw [e,← Nat.div_div_eq_div_mul,oN ha,← Nat.div_div_eq_div_mul,oN hd,Nat.div_div_eq_div_mul,← Nat.pow_add,show j+1+(m - j - 1)=m by omega]
  exact Nat.div_eq_of_lt hZ
 rcases Nat.lt_or_ge (kq Z j d) (C ^ m) with h | h
 ·exact h
 ·have:=Nat.div_pos h (gQ m);omega
theorem RG {Z c x D i k t Y:Nat} (he:Z+c*C ^ (i+k)=Y+x*(D % C ^ k)*C ^ i) (ht:t=c+(x*bR D k+bR Z (i+k))) :
  kq Z (i+k) (t % C)+t / C*C ^ (i+(k+1))=Y+x*(D % C ^ (k+1))*C ^ i:=by
 have hs:=KW Z (i+k) (t % C);rw [wo D k,← Nat.add_assoc,Nat.pow_succ];rw [Nat.pow_add] at he hs ⊢;exact Kl he hs ht
theorem Sq {A D Y Z c i n:Nat} (hY:Y=A % C ^ i*D) (hD:D < C ^ n) (hZ:Z < C ^ (i+n)) (he:Z+c*C ^ (i+n)=Y+bR A i*(D % C ^ n)*C ^ i) :
  kq Z (i+n) c=A % C ^ (i+1)*D:=by
 rw [KX hZ,he,Nat.mod_eq_of_lt hD,hY,wo,Nat.add_mul,Nat.mul_assoc (bR A i),Nat.mul_comm D,← Nat.mul_assoc]
open Go
abbrev S2:=ByteArray × ByteArray
def S2.ok (i:S2):Prop:=i.1.size≤549755813896∧i.2.size≤549755813896
def wP:bD:={ ι:=S2,args:=fun i=>[.string i.1,.string i.2],pre:=S2.ok,val:=fun i=>.string (nb (ab i.1+ab i.2)) }
def r6:bD:={ ι:=S2,args:=fun i=>[.string i.1,.string i.2],pre:=fun i=>S2.ok i∧ab i.2≤ab i.1,val:=fun i=>.string (nb (ab i.1 - ab i.2)) }
def Gc:bD:={ ι:=S2,args:=fun i=>[.string i.1,.string i.2],pre:=fun i=>i.1.size≤549755813888∧i.2.size≤549755813888,val:=fun i=>.string (nb (ab i.1*ab i.2)) }
def p8:bD:={ ι:=ByteArray × Nat,args:=fun i=>[.string i.1,.string (nb i.2)],pre:=fun i=>i.1.size≤549755813888∧aQ i.2≤549755813888∧i.2≠0,val:=fun i=>.tuple ⟨[.string (nb (ab i.1 / i.2)),.string (nb (ab i.1 % i.2))]⟩ }
theorem tI {s:ByteArray} {j:Nat} (h:j < s.size):bX s (s.size - (j+1))=bR (ab s) j:=by
 rw [tM (by omega),show s.size - 1 - (s.size - (j+1))=j by omega]
 rfl
theorem Bt {s:ByteArray} {j:Nat} (h:s.size≤j):bR (ab s) j=0:=Gb (gu s) h
def mZ (g:Nat→List Value) (n j Y:Nat):Prop:=(∀ r,r < n→∃ x:Int,g r=[.int .u8 x])∧∀ r,n - j≤r→r < n→g r=[.int .u8 ((bR Y (n - 1 - r):Nat):Int)]
theorem JL (n:Nat):mZ (fun _=>[.int .u8 0]) n 0 0:=⟨fun r _=>⟨0,rfl⟩,fun r h1 J=>absurd h1 (by omega)⟩
theorem JP {g:Nat→List Value} {n j Y d:Nat} (h:mZ g n j Y) (hj:j < n) (hY:Y < C ^ j) (hd:d < C) :
  mZ (fun r=>if r=n - (j+1) then [.int .u8 (d:Nat)] else g r) n (j+1) (Y+d*C ^ j):=by
 refine ⟨fun r hr=>?_,fun r h1 J=>?_⟩
 ·by_cases e:r=n - (j+1)
  ·exact ⟨_,if_pos e⟩
  ·simp only [if_neg e]; exact h.1 r hr
 ·rw [← KX hY,M8 hd];by_cases e:r=n - (j+1)
  ·simp only [if_pos e];rw [if_pos (by omega)]
  ·simp only [if_neg e];rw [if_neg (by omega)]
   exact h.2 r (by omega) J
theorem J5 {g:Nat→List Value} {n Y:Nat} (h:mZ g n n Y):(⟨⟨bytesOf g 0 n⟩⟩:ByteArray)=be n Y:=v8 fun r hr=>by
 rw [h.2 r (by omega) hr]
 rfl
theorem Sr {X D Y c i t:Nat} (he:Y+c*C ^ i=X % C ^ i+D % C ^ i) (ht:t=c+bR X i+bR D i) :
  Y+t % C*C ^ i+t / C*C ^ (i+1)=X % C ^ (i+1)+D % C ^ (i+1):=by
 rw [wo X i,wo D i,Nat.pow_succ];exact KS he ht
theorem Kn {Y d i:Nat} (hY:Y < C ^ i) (hd:d < C):Y+d*C ^ i < C ^ (i+1):=by
 have h:(d+1)*C ^ i≤C*C ^ i:=Nat.mul_le_mul_right _ hd;rw [Nat.pow_succ,Nat.mul_comm (C ^ i) C];rw [Nat.add_mul] at h;omega
theorem Wi {A D Y c n p q:Nat} (hA:A < C ^ p) (hD:D < C ^ q) (hn:p < n∧q < n) (hY:Y < C ^ n) (he:Y+c*C ^ n=A % C ^ n+D % C ^ n):Y=A+D:=by
 have h1:A < C ^ (n - 1):=Nat.lt_of_lt_of_le hA (Nat.pow_le_pow_right (by decide) (by omega))
 have J:D < C ^ (n - 1):=Nat.lt_of_lt_of_le hD (Nat.pow_le_pow_right (by decide) (by omega))
 have e:C ^ n=C ^ (n - 1)*256:=by rw [← Nat.pow_succ]; congr 1; omega
 have h3:A < C ^ n:=by omega
 have h4:D < C ^ n:=by omega
 rw [Nat.mod_eq_of_lt h3,Nat.mod_eq_of_lt h4] at he;have hc:c=0:=by
  rcases Nat.eq_zero_or_pos c with h | h
  ·exact h
  ·have:1*C ^ n≤c*C ^ n:=Nat.mul_le_mul_right _ h;omega
 subst hc;omega
theorem BM {n Y:Nat} (h:Y < C ^ n):nb (ab (be n Y))=nb Y:=by rw [F6,Nat.mod_eq_of_lt h]
structure yL (A D j Y c:Nat):Prop where
 lt:Y < C ^ j
 eq:Y+c*C ^ j=A % C ^ j+D % C ^ j
theorem Re (A D:Nat):yL A D 0 0 0:=⟨by decide,by simp [Nat.mod_one]⟩
theorem RH {A D j Y c t n:Nat} {g:Nat→List Value} (h:yL A D j Y c) (hg:mZ g n j Y) (hj:j < n) (ht:t=c+bR A j+bR D j) :
  ∃ Y',yL A D (j+1) Y' (t / C)∧mZ (fun r=>if r=n - (j+1) then [.int .u8 (t % C:Nat)] else g r) n (j+1) Y' :=
 have fI:t % C < C:=Nat.mod_lt _ (by decide)
 ⟨Y+t % C*C ^ j,⟨Kn h.lt fI,Sr h.eq ht⟩,JP hg hj h.lt fI⟩
theorem Ss {s t:ByteArray} {Y c n:Nat} {g:Nat→List Value} (h:yL (ab s) (ab t) n Y c) (hg:mZ g n n Y) (hn:s.size < n∧t.size < n) :
  ∃ v:ByteArray,(⟨⟨bytesOf g 0 n⟩⟩:ByteArray)=v∧v.size=n∧nb (ab v)=nb (ab s+ab t) :=
 ⟨be n Y,J5 hg,wL _ _,by rw [BM h.lt,Wi (gu s) (gu t) hn h.lt h.eq]⟩
theorem FA {n:Int} (h:n < 0) (J:-9223372036854775808≤n):IntKind.i64.wrap (0 - n)=if n=-9223372036854775808 then n else -n:=by
 split
 ·rename_i e; subst e; decide
 ·rw [ar (by omega) (by omega)]; omega
theorem Y5:nb 9223372036854775808=⟨#[128,0,0,0,0,0,0,0]⟩:=by
 rw [xt (n:=8) (by decide) (.inr (by decide))]
 rfl
theorem U2:aD (-9223372036854775808)=.agg ⟨[.bool true,.string ⟨#[128,0,0,0,0,0,0,0]⟩]⟩:=by
 rw [← Y5]; rfl
theorem vW {n:Int} (h:n < 0):aD n=.agg ⟨[.bool true,.string (nb n.natAbs)]⟩:=by
 unfold aD;rw [decide_eq_true h]
theorem vX {n:Int} (h:0≤n):aD n=.agg ⟨[.bool false,.string (nb n.natAbs)]⟩:=by
 unfold aD;rw [decide_eq_false (by omega)]
theorem IV.aQ {i:IV} (h:i.ok):Go.Ae.aQ i.z.natAbs≤549755813888:=by
 unfold IV.z;rw [tU];exact Nat.le_trans (jg i.2) h
theorem M9 {x y:Int} (hx:0≤x) (hy:0≤y):dL x y=cM x.natAbs y.natAbs:=by
 rw [← Bs]; congr 1 <;> omega
theorem Na {x y:Int} (hx:x < 0) (hy:y < 0):dL x y=cM y.natAbs x.natAbs:=by
 rw [← Mm]; congr 1 <;> omega
open Go
structure yM (A D j Y c:Nat):Prop where
 lt:Y < C ^ j
 eq:Y+D % C ^ j=A % C ^ j+c*C ^ j
theorem Rf (A D:Nat):yM A D 0 0 0:=⟨by decide,by simp [Nat.mod_one]⟩
theorem St {Y D A P c e d a c':Nat} (h:Y+D=A+c*P) (he:e+c+d=a+256*c') :
  Y+e*P+(D+d*P)=A+a*P+c'*(P*256):=by
 have J:(e+c+d)*P=(a+256*c')*P:=by rw [he]
 simp only [Nat.add_mul] at J;have h3:c'*(P*256)=256*c'*P:=by rw [Nat.mul_comm P,← Nat.mul_assoc,Nat.mul_comm c']
 omega
theorem AT {A D j Y c e c' n:Nat} {g:Nat→List Value} (h:yM A D j Y c) (hg:mZ g n j Y) (hj:j < n) (he:e < C) (ht:e+c+bR D j=bR A j+256*c') :
  ∃ Y',yM A D (j+1) Y' c'∧mZ (fun r=>if r=n - (j+1) then [.int .u8 (e:Nat)] else g r) n (j+1) Y' :=
 ⟨Y+e*C ^ j,⟨Kn h.lt he,by
  rw [wo A j,wo D j,Nat.pow_succ];exact St h.eq ht⟩,JP hg hj h.lt he⟩
theorem Su {s t:ByteArray} {Y c:Nat} {g:Nat→List Value} (h:yM (ab s) (ab t) s.size Y c) (hle:ab t≤ab s) (hg:mZ g s.size s.size Y) :
  ∃ v:ByteArray,(⟨⟨bytesOf g 0 s.size⟩⟩:ByteArray)=v∧v.size=s.size∧nb (ab v)=nb (ab s - ab t):=by
 refine ⟨be s.size Y,J5 hg,wL _ _,?_⟩;rw [BM h.lt];have h1:=h.eq;have J:=h.lt;have h3:=gu s;rw [Nat.mod_eq_of_lt h3,Nat.mod_eq_of_lt (Nat.lt_of_le_of_lt hle h3)] at h1;have hc:c=0:=by
  rcases Nat.eq_zero_or_pos c with h | h
  ·exact h
  ·have:1*C ^ s.size≤c*C ^ s.size:=Nat.mul_le_mul_right _ h;omega
 subst hc
 congr 1
 omega
def qH (g:Nat→List Value) (n Z:Nat):Prop:=∀ r,r < n→g r=[.int .i64 ((bR Z (n - 1 - r):Nat):Int)]
theorem RI (n:Nat):qH (fun _=>[.int .i64 0]) n 0:=fun r hr=>by rw [U1]; rfl
theorem LI {g:Nat→List Value} {n Z j d:Nat} (h:qH g n Z) (hj:j < n) (hd:d < C) :
  qH (fun r=>if r=n - 1 - j then [.int .i64 (d:Nat)] else g r) n (kq Z j d):=fun r hr=>by
 rw [M8 hd];by_cases e:r=n - 1 - j
 ·simp only [if_pos e]; rw [if_pos (by omega)]
 ·simp only [if_neg e]; rw [if_neg (by omega)]; exact h r hr
structure yN (A D p m q Z c:Nat):Prop where
 lt:Z < C ^ (p+m)
 eq:Z+c*C ^ (p+q)=A % C ^ p*D+bR A p*(D % C ^ q)*C ^ p
structure yO (A D p m Z:Nat):Prop where
 lt:Z < C ^ (p+m)
 eq:Z=A % C ^ p*D
theorem Rg (A D m:Nat):yO A D 0 m 0:=⟨gQ _,by simp [Nat.mod_one]⟩
theorem Rh {A D p m Z:Nat} (h:yO A D p m Z):yN A D p m 0 Z 0:=⟨h.lt,by simp [Nat.mod_one,h.eq]⟩
theorem RJ {A D p m q Z c t n:Nat} {g:Nat→List Value} (h:yN A D p m q Z c) (hg:qH g n Z) (hq:q < m) (hn:p+m < n) (ht:t=c+(bR A p*bR D q+bR Z (p+q))) :
  ∃ Z',yN A D p m (q+1) Z' (t / C)∧qH (fun r=>if r=n - 1 - (p+q) then [.int .i64 (t % C:Nat)] else g r) n Z' :=
 have fI:t % C < C:=Nat.mod_lt _ (by decide)
 ⟨kq Z (p+q) (t % C),⟨LH h.lt (by omega) fI,RG h.eq ht⟩,LI hg (by omega) fI⟩
theorem Sv {A D p m Z c n:Nat} {g:Nat→List Value} (h:yN A D p m m Z c) (hD:D < C ^ m) (hg:qH g n Z) (hn:p+m < n) (hc:c < C) :
  (bR Z (p+m)=0)∧∃ Z',yO A D (p+1) m Z'∧qH (fun r=>if r=n - 1 - (p+m) then [.int .i64 (c:Nat)] else g r) n Z' :=
 ⟨Gb h.lt (Nat.le_refl _),kq Z (p+m) c,⟨by
  rw [show p+1+m=p+m+1 by omega]
  exact LH (Nat.lt_of_lt_of_le h.lt (Nat.pow_le_pow_right (by decide) (Nat.le_succ _))) (by omega) hc,Sq rfl hD h.lt h.eq⟩,LI hg hn hc⟩
theorem Sw {A D p m Z:Nat} (h:yO A D p m Z) (hA:A < C ^ p):Z=A*D:=by rw [h.eq,Nat.mod_eq_of_lt hA]
def wG (g:Nat→List Value) (n i Z:Nat):Prop:=(∀ r,r < n→∃ x:Int,g r=[.int .u8 x])∧∀ r,r < i→g r=[.int .u8 ((bR Z (n - 1 - r):Nat):Int)]
theorem QU (n Z:Nat):wG (fun _=>[.int .u8 0]) n 0 Z:=⟨fun r _=>⟨0,rfl⟩,fun r h=>absurd h (by omega)⟩
theorem QY {g:Nat→List Value} {n i Z:Nat} (h:wG g n i Z) (hi:i < n) :
  wG (fun r=>if r=i then [.int .u8 (bR Z (n - 1 - i):Nat)] else g r) n (i+1) Z:=by
 refine ⟨fun r hr=>?_,fun r hr=>?_⟩
 ·by_cases e:r=i
  ·exact ⟨_,if_pos e⟩
  ·simp only [if_neg e]; exact h.1 r hr
 ·by_cases e:r=i
  ·subst e; simp
  ·simp only [if_neg e]; exact h.2 r (by omega)
theorem Ri {g:Nat→List Value} {n Z:Nat} (h:wG g n n Z):(⟨⟨bytesOf g 0 n⟩⟩:ByteArray)=be n Z:=v8 fun r hr=>h.2 r hr
theorem Rj {g:Nat→List Value} {n Z:Nat} (h:wG g n n Z) (hZ:Z < C ^ n):∃ v:ByteArray,(⟨⟨bytesOf g 0 n⟩⟩:ByteArray)=v∧v.size=n∧nb (ab v)=nb Z :=
 ⟨be n Z,Ri h,wL _ _,BM hZ⟩
theorem Sx {c x y z t:Nat} (hc:c < C) (hx:x < C) (hy:y < C) (hz:z < C) (ht:t=c+(x*y+z)):t / C < C∧t < 65536:=by
 have:x*y≤255*255:=Nat.mul_le_mul (Nat.le_of_lt_succ hx) (Nat.le_of_lt_succ hy);have hc:c < 256:=hc;have hz:z < 256:=hz;have h:t < 65536:=by omega
 exact ⟨by show t / 256 < 256; omega,h⟩
theorem Wj {c x y z t:Nat} (hc:c < C) (hx:x < C) (hy:y < C) (hz:z < C) (ht:t=c+(x*y+z)) :
  IntKind.i64.wrap ((c:Int)+IntKind.i64.wrap ((z:Int)+IntKind.i64.wrap (IntKind.i64.wrap (x:Int)*IntKind.i64.wrap (y:Int))))=(t:Int):=by
 have h:x*y≤255*255:=Nat.mul_le_mul (Nat.le_of_lt_succ hx) (Nat.le_of_lt_succ hy);have hc:c < 256:=hc;have hz:z < 256:=hz;have hx:x < 256:=hx;have hy:y < 256:=hy;have e:(x:Int)*(y:Int)=((x*y:Nat):Int):=by rw [Int.natCast_mul]
 rw [ar (x:=(x:Int)) (by omega) (by omega),ar (x:=(y:Int)) (by omega) (by omega),e,ar (x:=((x*y:Nat):Int)) (by omega) (by omega),ar (x:=(z:Int)+_) (by omega) (by omega),ar (by omega) (by omega)]
 omega
theorem Wk {t:Nat} (h:t < 65536):((BitVec.ofInt IntKind.i64.bits (t:Int) &&& BitVec.ofInt IntKind.i64.bits 255).toNat:Int)=((t % C:Nat):Int):=by
 have e1:BitVec.ofInt IntKind.i64.bits (t:Int)=BitVec.ofNat 64 t:=by
  apply BitVec.eq_of_toNat_eq;show ((t:Int) % ((2 ^ 64:Nat):Int)).toNat=t % 2 ^ 64
  omega
 rw [e1];show (((t % 2 ^ 64) &&& 255:Nat):Int)=_
 have:(t % 2 ^ 64) &&& 255=t % 256:=by
  rw [show (255:Nat)=2 ^ 8 - 1 from rfl,Nat.and_two_pow_sub_one_eq_mod]
  omega
 rw [this]
theorem U3 {s t:ByteArray}:ab s*ab t < C ^ (s.size+t.size):=by
 rw [Nat.pow_add];exact Nat.lt_of_le_of_lt (Nat.mul_le_mul_right _ (Nat.le_of_lt (gu s))) (Nat.mul_lt_mul_of_pos_left (gu t) (gQ _))
theorem uJ {e:Nat} (h:e < 256):IntKind.u8.wrap (e:Int)=(e:Int):=dA (by omega) (by omega)
structure xd (s:ByteArray) (D i Q R:Nat):Prop where
 eq:ab s / C ^ (s.size - i)=Q*D+R
 lt:R < D
 q:Q < C ^ i
structure ua (D R' k d R:Nat):Prop where
 eq:R'=d*D+R
 lt:R < 2 ^ k*D
 d:d+2 ^ k≤256
theorem Rk (s:ByteArray) {D:Nat} (hD:D≠0):xd s D 0 0 0:=⟨by
 rw [Nat.sub_zero,Nat.div_eq_of_lt (gu s),Nat.zero_mul],Nat.pos_of_ne_zero hD,Nat.zero_lt_one⟩
theorem QZ {s:ByteArray} {D i Q R:Nat} (h:xd s D i Q R) (hi:i < s.size):ua D (R*256+bX s i) 8 0 (R*256+bX s i) :=
 ⟨by omega,by
  have h1:bX s i < 256:=wj s i;have J:=h.lt;show _ < 256*D
  omega,by decide⟩
theorem RK {D R' k d R:Nat} (h:ua D R' (k+1) d R) (hR:2 ^ k*D≤R):ua D R' k (d+2 ^ k) (R - 2 ^ k*D):=⟨by
 have:=h.eq;rw [Nat.add_mul];omega,by
 have:=h.lt;rw [Nat.pow_succ,Nat.mul_comm (2 ^ k) 2,Nat.mul_assoc] at this;omega,by
 have:=h.d;rw [Nat.pow_succ] at this;omega⟩
theorem Sy {D R' k d R:Nat} (h:ua D R' (k+1) d R) (hR:R < 2 ^ k*D):ua D R' k d R:=⟨h.eq,hR,by
 have:=h.d;rw [Nat.pow_succ] at this;omega⟩
theorem RL {s:ByteArray} {D i Q R d R2:Nat} (h:xd s D i Q R) (hi:i < s.size) (J:ua D (R*256+bX s i) 0 d R2):xd s D (i+1) (Q*256+d) R2:=⟨by
 rw [yo hi,h.eq,Nat.add_mul (Q*256),Nat.add_mul (Q*D)];have h3:=J.eq;have e:Q*256*D=Q*D*256:=by rw [Nat.mul_assoc,Nat.mul_comm 256,Nat.mul_assoc]
 rw [e,Nat.add_assoc,h3,Nat.add_assoc],by have:=J.lt; simpa using this,by
 have:=h.q;have h3:d < 256:=by have:=J.d; omega
 rw [Nat.pow_succ];show _ < C ^ i*256
 omega⟩
theorem Sz {s:ByteArray} {D Q R:Nat} (h:xd s D s.size Q R):Q=ab s / D∧R=ab s % D:=by
 have h1:=h.eq;rw [Nat.sub_self,Nat.pow_zero,Nat.div_one] at h1;have J:=h.lt;refine ⟨?_,?_⟩
 ·rw [h1,Nat.mul_comm,Nat.mul_add_div (by omega),Nat.div_eq_of_lt J,Nat.add_zero]
 ·rw [h1,Nat.mul_comm,Nat.mul_add_mod,Nat.mod_eq_of_lt J]
def Bd (g:Nat→List Value) (i D:Nat):Prop:=(∀ r,r < 8→∃ x:ByteArray,g r=[.string x])∧∀ r,r < i→g r=[.string (nb (2 ^ r*D))]
theorem QQ (D:Nat):Bd (fun r=>if r=0 then [.string (nb D)] else [.string ⟨#[]⟩]) 1 D:=by
 refine ⟨fun r hr=>?_,fun r hr=>?_⟩
 ·by_cases e:r=0
  ·exact ⟨_,if_pos e⟩
  ·exact ⟨_,if_neg e⟩
 ·have e:r=0:=by omega
  subst e;simp
theorem QV {g:Nat→List Value} {i D:Nat} (h:Bd g (i+1) D) (hi:i+1 < 8) {v:ByteArray} (hv:v=nb (2 ^ i*D+2 ^ i*D)) :
  Bd (fun r=>if r=i+1 then [.string v] else g r) (i+1+1) D:=by
 refine ⟨fun r hr=>?_,fun r hr=>?_⟩
 ·by_cases e:r=i+1
  ·exact ⟨_,if_pos e⟩
  ·simp only [if_neg e]; exact h.1 r hr
 ·by_cases e:r=i+1
  ·subst e;simp only [if_true];rw [hv,Nat.pow_succ,Nat.mul_comm (2 ^ i) 2,Nat.mul_assoc,Nat.two_mul]
  ·simp only [if_neg e]; exact h.2 r (by omega)
theorem E5 {D k:Nat} (hk:k≤8):aQ (2 ^ k*D)≤aQ D+1:=fj (by
 have h1:=lL D;have J:2 ^ k≤2 ^ 8:=Nat.pow_le_pow_right (by decide) hk
 rw [Nat.pow_succ,Nat.mul_comm (C ^ _)];exact Nat.lt_of_le_of_lt (Nat.mul_le_mul_right _ J) (Nat.mul_lt_mul_of_pos_left h1 (by decide)))
theorem ac9 {k:Nat} (h:k≤7):IntKind.i64.wrap (1*2 ^ min (Int.toNat (IntKind.u64.wrap (k:Int))) IntKind.i64.bits)=((2 ^ k:Nat):Int):=by
 rcases k with _ | _ | _ | _ | _ | _ | _ | _ | k
 all_goals first | rfl | decide | omega
theorem TR (R:Nat) {s:ByteArray} {i:Nat} (h:i < s.size):ab (nb R++s.extract i (i+1))=R*256+bX s i∧(nb R++s.extract i (i+1)).size=aQ R+1:=by
 have e:=DV (s:=s) (l:=i) (h:=i+1) (by omega) (by omega)
 refine ⟨?_,by rw [ByteArray.size_append,gE,e]; omega⟩
 rw [RC,ia,e,DZ (by omega) (by omega),tM h]
 rw [show i+1 - i=1 by omega,Nat.pow_one,show s.size - (i+1)=s.size - 1 - i by omega]
def za (g:Nat→List Value) (n i Q:Nat):Prop:=(∀ r,r < n→∃ x:Int,g r=[.int .u8 x])∧∀ r,r < i→g r=[.int .u8 ((bR Q (i - 1 - r):Nat):Int)]
theorem RM (n:Nat):za (fun _=>[.int .u8 0]) n 0 0:=⟨fun r _=>⟨0,rfl⟩,fun r h=>absurd h (by omega)⟩
theorem Mq {Q d:Nat} (hd:d < 256) (r:Nat):bR (Q*256+d) (r+1)=bR Q r∧bR (Q*256+d) 0=d:=by
 unfold bR;have e:(Q*256+d) / 256=Q:=by omega
 refine ⟨?_,?_⟩
 ·rw [Nat.pow_succ,Nat.mul_comm (C ^ r) C,← Nat.div_div_eq_div_mul];show (Q*256+d) / 256 / _ % _=_
  rw [e]
 ·rw [Nat.pow_zero,Nat.div_one];show _ % 256=_
  omega
theorem SA {g:Nat→List Value} {n i Q d:Nat} (h:za g n i Q) (hi:i < n) (hd:d < 256) :
  za (fun r=>if r=i then [.int .u8 (d:Nat)] else g r) n (i+1) (Q*256+d):=by
 refine ⟨fun r hr=>?_,fun r hr=>?_⟩
 ·by_cases e:r=i
  ·exact ⟨_,if_pos e⟩
  ·simp only [if_neg e]; exact h.1 r hr
 ·by_cases e:r=i
  ·subst e; simp only [if_true];rw [show r+1 - 1 - r=0 by omega,(Mq hd 0).2]
  ·simp only [if_neg e];rw [h.2 r (by omega),show i+1 - 1 - r=(i - 1 - r)+1 by omega,(Mq hd _).1]
theorem TS {g:Nat→List Value} {n Q:Nat} (h:za g n n Q) (hQ:Q < C ^ n):∃ v:ByteArray,(⟨⟨bytesOf g 0 n⟩⟩:ByteArray)=v∧v.size=n∧nb (ab v)=nb Q :=
 ⟨be n Q,v8 fun r hr=>h.2 r hr,wL _ _,BM hQ⟩
open Go
theorem wQ {B:Bool} {N:Nat} {z:Int} (h1:B=decide (z < 0)) (J:N=z.natAbs):Value.agg ⟨[.bool B,.string (nb N)]⟩=aD z:=by
 subst h1; subst J; rfl
structure EI (z:Int) (B:Bool) (m:ByteArray):Prop where
 enc:aD z=.agg ⟨[.bool B,.string m]⟩
 sign:B=decide (z < 0)
 nL:m=nb z.natAbs
theorem EI.mk' (z:Int):∃ B m,EI z B m:=⟨_,_,rfl,rfl,rfl⟩
theorem EI.abs {z:Int} {B:Bool} {m:ByteArray} (h:EI z B m):ab m=z.natAbs:=by rw [h.nL,ia]
theorem EI.val {z:Int} {B:Bool} {m:ByteArray} (h:EI z B m):IV.z (B,m)=z:=by
 rw [h.sign,h.nL]; exact NO z
theorem EI.nil {z:Int} {B:Bool} {m:ByteArray} (h:EI z B m):(m.toList == (⟨#[]⟩:ByteArray).toList)=decide (z=0):=by
 have e:=Fz z.natAbs;rw [← h.nL] at e;have e2:(m.toList == (⟨#[]⟩:ByteArray).toList)=!(z.natAbs != 0):=by rw [← e,Bool.not_not]
 rw [e2];by_cases hz:z=0
 ·subst hz; rfl
 ·have:z.natAbs≠0:=by omega
  rw [decide_eq_false hz];simp [this]
theorem EI.nn {z:Int} {B:Bool} {m:ByteArray} (h:EI z B m):(!(m.toList == (⟨#[]⟩:ByteArray).toList))=decide (z≠0):=by
 rw [h.nil]; by_cases hz:z=0 <;> simp [hz]
theorem EI.size {z:Int} {B:Bool} {m:ByteArray} (h:EI z B m):m.size=aQ z.natAbs:=by rw [h.nL,gE]
theorem EI.eta {z:Int} {B:Bool} {m:ByteArray} (h:EI z B m):m=nb (ab m):=by rw [h.abs,h.nL]
theorem EI.small {z:Int} {B:Bool} {m:ByteArray} (h:EI z B m) (h7:m.size≤7):-72057594037927936 < z∧z < 72057594037927936:=by
 have:=Ga (i:=(B,m)) h7;rw [h.val] at this;exact this
theorem EI.same {x y:Int} {B D:Bool} {m k:ByteArray} (h:EI x B m) (J:EI y D k) (e:B=D):Value.agg ⟨[.bool B,.string (nb (ab m+ab k))]⟩=aD (x+y):=by
 have h3:=h.sign;have h4:=J.sign;rw [← e] at h4;refine wQ ?_ ?_
 ·cases B
  ·have:=of_decide_eq_false h3.symm;have:=of_decide_eq_false h4.symm;exact (decide_eq_false (by omega)).symm
  ·have:=of_decide_eq_true h3.symm;have:=of_decide_eq_true h4.symm;exact (decide_eq_true (by omega)).symm
 ·rw [h.abs,J.abs];cases B
  ·have:=of_decide_eq_false h3.symm;have:=of_decide_eq_false h4.symm;omega
  ·have:=of_decide_eq_true h3.symm;have:=of_decide_eq_true h4.symm;omega
theorem EI.differ {x y:Int} {B D:Bool} {m k:ByteArray} (h:EI x B m) (J:EI y D k) (e:B≠D) (ak:ab k < ab m):Value.agg ⟨[.bool B,.string (nb (ab m - ab k))]⟩=aD (x+y):=by
 have h3:=h.sign;have h4:=J.sign;rw [h.abs,J.abs] at ak ⊢;cases B <;> cases D
 ·exact absurd rfl e
 ·have:=of_decide_eq_false h3.symm;have:=of_decide_eq_true h4.symm;exact wQ (decide_eq_false (by omega)).symm (by omega)
 ·have:=of_decide_eq_true h3.symm;have:=of_decide_eq_false h4.symm;exact wQ (decide_eq_true (by omega)).symm (by omega)
 ·exact absurd rfl e
theorem EI.equal {x y:Int} {B D:Bool} {m k:ByteArray} (h:EI x B m) (J:EI y D k) (e:B≠D) (ak:ab k=ab m):x+y=0:=by
 have h3:=h.sign;have h4:=J.sign;rw [h.abs,J.abs] at ak;cases B <;> cases D
 ·exact absurd rfl e
 ·have:=of_decide_eq_false h3.symm;have:=of_decide_eq_true h4.symm;omega
 ·have:=of_decide_eq_true h3.symm;have:=of_decide_eq_false h4.symm;omega
 ·exact absurd rfl e
theorem EI.mul {x y:Int} {B D:Bool} {m k:ByteArray} (h:EI x B m) (J:EI y D k) (hx:x≠0) (hy:y≠0):Value.agg ⟨[.bool (B != D),.string (nb (ab m*ab k))]⟩=aD (x*y):=by
 have h3:=h.sign;have h4:=J.sign;rw [h.abs,J.abs];refine wQ ?_ (by rw [Int.natAbs_mul])
 have hm:x*y < 0↔¬ ((x < 0)↔(y < 0)):=by
  rcases Int.lt_or_gt_of_ne hx with a | a <;> rcases Int.lt_or_gt_of_ne hy with b | b
  ·have:=Int.mul_pos_of_neg_of_neg a b;constructor
   ·intro; omega
   ·intro h; exact absurd ⟨fun _=>b,fun _=>a⟩ h
  ·have:=Int.mul_neg_of_neg_of_pos a b;constructor
   ·intro _ h; have:=h.1 a; omega
   ·intro; exact this
  ·have:=Int.mul_neg_of_pos_of_neg a b;constructor
   ·intro _ h; have:=h.2 b; omega
   ·intro; exact this
  ·have:=Int.mul_pos a b;constructor
   ·intro; omega
   ·intro h; exact absurd ⟨fun q=>by omega,fun q=>by omega⟩ h
 rw [h3,h4];by_cases a:x < 0 <;> by_cases b:y < 0 <;> simp [a,b,hm]
theorem EI.aY {z:Int} {B:Bool} {m:ByteArray} (h:EI z B m):Go.Ae.aY B (ab m)=z:=h.val
theorem FB {x y zq zr:Int} {B D:Bool} {m k:ByteArray} (hE:EI x B m) (hF:EI y D k) (hy:y≠0) (h:B=D) (hq:zq=((ab m / ab k:Nat):Int)) (hr:zr=((ab m % ab k:Nat):Int)) :
  zq=Int.fdiv x y∧(if D=true then -zr else zr)=Int.fmod x y:=by
 have hk:0 < ab k:=by rw [hF.abs]; omega
 obtain ⟨h1,J⟩:=wm (b:=B) (c:=D) (A:=ab m) hk (.inr h);rw [hE.aY,hF.aY] at h1 J;rw [h1,J,hq,hr,h];cases D <;> exact ⟨rfl,rfl⟩
theorem E6 {x y zq zr:Int} {B D:Bool} {m k:ByteArray} (hE:EI x B m) (hF:EI y D k) (hy:y≠0) (h:B≠D) (hq:zq=((ab m / ab k:Nat):Int)) (hr:zr=((ab m % ab k:Nat):Int)) (h0:zr=0) :
  -zq=Int.fdiv x y∧(if D=true then -zr else zr)=Int.fmod x y:=by
 have hk:0 < ab k:=by rw [hF.abs]; omega
 have h3:ab m % ab k=0:=by rw [h0] at hr; omega
 obtain ⟨h1,J⟩:=wm (b:=B) (c:=D) (A:=ab m) hk (.inl h3);rw [hE.aY,hF.aY] at h1 J;rw [h1,J,hq,h0,h3];refine ⟨?_,?_⟩
 ·cases B <;> cases D
  ·exact absurd rfl h
  ·rfl
  ·rfl
  ·exact absurd rfl h
 ·cases B <;> cases D <;> rfl
theorem FC {x y zq zr:Int} {B D:Bool} {m k:ByteArray} (hE:EI x B m) (hF:EI y D k) (hy:y≠0) (h:B≠D) (hq:zq=((ab m / ab k:Nat):Int)) (hr:zr=((ab m % ab k:Nat):Int)) (h0:zr≠0) :
  -zq - 1=Int.fdiv x y∧(if D=true then -(((ab k:Nat):Int) - zr) else ((ab k:Nat):Int) - zr)=Int.fmod x y:=by
 have hk:0 < ab k:=by rw [hF.abs]; omega
 obtain ⟨h1,J⟩:=EA (b:=B) (c:=D) (A:=ab m) hk (by omega) h
 rw [hE.aY,hF.aY] at h1;rw [hE.aY] at J;rw [hF.aY] at J;rw [h1,J,hq,hr];refine ⟨?_,?_⟩
 ·cases B <;> cases D
  ·exact absurd rfl h
  ·rfl
  ·rfl
  ·exact absurd rfl h
 ·have hv:=hF.aY;cases B <;> cases D
  ·exact absurd rfl h
  ·rw [← hv]; unfold Go.Ae.aY; simp only [if_true]; simp; omega
  ·rw [← hv]; unfold Go.Ae.aY; simp only [if_true]; simp; omega
  ·exact absurd rfl h
theorem EI.iR {z:Int} (h:0≤z):∃ m,EI z false m:=⟨_,(wQ (decide_eq_false (by omega)).symm rfl).symm,(decide_eq_false (by omega)).symm,rfl⟩
theorem Mr {n:Nat} (h:n < 72057594037927936):IntKind.i64.wrap (n:Int)=n:=ar (by omega) (by omega)
theorem Q0 {x y:Int} (h:aQ x.natAbs+aQ y.natAbs < 8):-9223372036854775808≤x*y∧x*y < 9223372036854775808:=by
 have h1:=lL x.natAbs;have J:=lL y.natAbs;have h3:x.natAbs*y.natAbs < C ^ (aQ x.natAbs+aQ y.natAbs):=by
  rw [Nat.pow_add];exact Nat.lt_of_le_of_lt (Nat.mul_le_mul_right _ (Nat.le_of_lt h1)) (Nat.mul_lt_mul_of_pos_left J (gQ _))
 have h4:=ob (i:=aQ x.natAbs+aQ y.natAbs) (by omega)
 rw [← Int.natAbs_mul] at h3;omega
open Go
def fo (d:Nat):ByteArray:=if d=1 then ⟨#[]⟩ else nb d
def bK (q:Rat):Value:=.agg ⟨[.bool (decide (q.num < 0)),.string (nb q.num.natAbs),.string (fo q.den)]⟩
abbrev RV:=Bool × ByteArray × ByteArray
def RV.v (i:RV):Value:=.agg ⟨[.bool i.1,.string i.2.1,.string i.2.2]⟩
def RV.n (i:RV):Int:=aY i.1 (ab i.2.1)
def RV.d (i:RV):Nat:=if ab i.2.2=0 then 1 else ab i.2.2
def RV.q (i:RV):Rat:=mkRat i.n i.d
def RV.ok (i:RV):Prop:=i.2.1.size≤8589934592∧i.2.2.size≤8589934592
def RV.of (q:Rat):RV:=(decide (q.num < 0),nb q.num.natAbs,fo q.den)
theorem RV.jV (i:RV):i.d≠0:=by
 unfold RV.d
 split <;> omega
theorem TU {d:Nat} (h:d≠0):(if ab (fo d)=0 then 1 else ab (fo d))=d:=by
 unfold fo
 split
 ·rename_i e; rw [e]; rfl
 ·rw [ia,if_neg h]
theorem RV.Pc (q:Rat):(RV.of q).n=q.num:=by
 exact NO q.num
theorem RV.Pd (q:Rat):(RV.of q).d=q.den:=TU q.den_nz
theorem RV.ij (q:Rat):(RV.of q).q=q:=by
 unfold RV.q;rw [RV.Pc,RV.Pd,Rat.mkRat_self]
theorem GJ (n:Int) {d:Nat} (h:d≠0):n.fdiv ((Int.gcd n d:Nat):Int)=(mkRat n d).num:=by
 rw [Rat.num_mkRat,if_neg h,Int.fdiv_eq_ediv_of_nonneg _ (by omega)]
 rw [Int.gcd_comm]; rfl
theorem GK (n:Int) {d:Nat} (h:d≠0):((d:Nat):Int).fdiv ((Int.gcd n d:Nat):Int)=(((mkRat n d).den:Nat):Int):=by
 rw [Rat.den_mkRat,if_neg h,Int.fdiv_eq_ediv_of_nonneg _ (by omega),Int.natCast_ediv]
 rw [Int.gcd_comm]; rfl
theorem Y6 (n:Int) {d:Nat} (h:d≠0):(mkRat n d).num.natAbs≤n.natAbs:=by
 rw [Rat.num_mkRat,if_neg h];exact Int.natAbs_ediv_le_natAbs n _
theorem NP (n:Int) {d:Nat} (h:d≠0):(mkRat n d).den≤d:=by
 rw [Rat.den_mkRat,if_neg h];exact Nat.div_le_self _ _
def QB (q:Rat) (k:Nat):Prop:=aQ q.num.natAbs≤k∧aQ q.den≤k
theorem wR (a b:Nat):aQ (a*b)≤aQ a+aQ b:=fj (by
 rw [Nat.pow_add];exact Nat.lt_of_le_of_lt (Nat.mul_le_mul_right _ (Nat.le_of_lt (lL a))) (Nat.mul_lt_mul_of_pos_left (lL b) (gQ _)))
theorem Nb {a b k:Nat} (ha:aQ a≤k) (hb:aQ b≤k):aQ (a+b)≤k+1:=fj (by
 have h1:=Nat.lt_of_lt_of_le (lL a) (Nat.pow_le_pow_right (n:=C) (by decide) ha)
 have J:=Nat.lt_of_lt_of_le (lL b) (Nat.pow_le_pow_right (n:=C) (by decide) hb)
 rw [Nat.pow_succ];show _ < C ^ k*256
 omega)
theorem QB.mk {n:Int} {d k:Nat} (hd:d≠0) (h1:aQ n.natAbs≤k) (J:aQ d≤k):QB (mkRat n d) k :=
 ⟨Nat.le_trans (iO (Y6 n hd)) h1,Nat.le_trans (iO (NP n hd)) J⟩
theorem QB.mono {q:Rat} {k l:Nat} (h:QB q k) (hl:k≤l):QB q l:=⟨Nat.le_trans h.1 hl,Nat.le_trans h.2 hl⟩
theorem QB.add {p q:Rat} {k l:Nat} (hp:QB p k) (hq:QB q l):QB (p+q) (k+l+1):=by
 rw [Rat.add_def'];refine QB.mk (Nat.mul_ne_zero p.den_nz q.den_nz) ?_ ?_
 ·have h1:aQ (p.num*q.den).natAbs≤k+l:=by
   rw [Int.natAbs_mul]; exact Nat.le_trans (wR _ _) (Nat.add_le_add hp.1 hq.2)
  have J:aQ (q.num*p.den).natAbs≤k+l:=by
   rw [Int.natAbs_mul]; exact Nat.le_trans (wR _ _) (by rw [Nat.add_comm k]; exact Nat.add_le_add hq.1 hp.2)
  exact Nat.le_trans (iO (Int.natAbs_add_le _ _)) (Nb h1 J)
 ·exact Nat.le_trans (wR _ _) (Nat.le_succ_of_le (Nat.add_le_add hp.2 hq.2))
theorem QB.neg {p:Rat} {k:Nat} (hp:QB p k):QB (-p) k:=⟨by rw [Rat.neg_num,Int.natAbs_neg]; exact hp.1,hp.2⟩
theorem QB.sub {p q:Rat} {k l:Nat} (hp:QB p k) (hq:QB q l):QB (p - q) (k+l+1):=by
 rw [Rat.sub_eq_add_neg]; exact hp.add hq.neg
theorem QB.mul {p q:Rat} {k l:Nat} (hp:QB p k) (hq:QB q l):QB (p*q) (k+l):=by
 rw [Rat.mul_def'];refine QB.mk (Nat.mul_ne_zero p.den_nz q.den_nz) ?_ (Nat.le_trans (wR _ _) (Nat.add_le_add hp.2 hq.2));rw [Int.natAbs_mul]; exact Nat.le_trans (wR _ _) (Nat.add_le_add hp.1 hq.1)
theorem RV.qb {i:RV} {k:Nat} (h1:i.2.1.size≤k) (J:i.2.2.size≤k) (hk:1≤k):QB i.q k:=by
 refine QB.mk i.jV ?_ ?_
 ·unfold RV.n;rw [tU];exact Nat.le_trans (jg _) h1
 ·unfold RV.d
  split
  ·exact Nat.le_trans (fj (show 1 < C ^ 1 by decide)) hk
  ·exact Nat.le_trans (jg _) J
theorem LJ {d k:Nat} (h:aQ d≤k):(fo d).size≤k:=by
 unfold fo
 split
 ·exact Nat.zero_le _
 ·rw [gE]; exact h
theorem RV.sE {q:Rat} (h:QB q 8589934592):(RV.of q).ok:=⟨by show (nb _).size≤_; rw [gE]; exact h.1,LJ h.2⟩
open Go
def xu (n d:IV):Value:=.agg ⟨[.bool n.1,.string n.2,.bool d.1,.string d.2]⟩
def gW:bD:={ ι:=IV × Int,args:=fun i=>[i.1.v,.int .i64 i.2],pre:=fun i=>i.1.ok∧-9223372036854775808≤i.2∧i.2 < 9223372036854775808,val:=fun i=>.bool (decide (i.1.z=i.2)) }
def Ms:bD:={ ι:=IV,args:=fun i=>[.bool i.1,.string i.2],pre:=fun _=>True,val:=fun i=>i.v }
def RV.den (i:RV):ByteArray:=if ab i.2.2=0 then nb 1 else i.2.2
def lY:bD:={ ι:=RV,args:=fun i=>[i.v],pre:=fun i=>i.2.2.size≤549755813888,val:=fun i=>xu (i.1,i.2.1) (false,i.den) }
def oT:bD:={ ι:=IV × IV,args:=fun i=>[xu i.1 i.2],pre:=fun i=>i.1.ok∧i.2.ok∧0 < i.2.z,val:=fun i=>bK (mkRat i.1.z i.2.z.natAbs) }
def p9:bD:={ ι:=IV × IV,args:=fun i=>[i.1.v,i.2.v],pre:=fun i=>i.1.ok∧i.2.ok∧0 < i.2.z,val:=fun i=>bK (mkRat i.1.z i.2.z.natAbs) }
def RV.fN (i:RV):Prop:=i.2.1.size≤3∧i.2.2.size≤3
instance (i:RV):Decidable i.fN:=inferInstanceAs (Decidable (_∧_))
def bE:bD:={ ι:=RV,args:=fun i=>[i.v],pre:=fun _=>True,val:=fun i=>.tuple ⟨[.int .i64 (if i.fN then i.n else 0),.int .i64 (if i.fN then (i.d:Int) else 0),.bool (decide i.fN)]⟩ }
def sF:bD:={ ι:=Nat,args:=fun n=>[.int .i64 n],pre:=fun n=>n < 72057594037927936,val:=fun n=>.string (nb n) }
def nV:bD:={ ι:=Int × Nat,args:=fun i=>[.int .i64 i.1,.int .i64 i.2],pre:=fun i=>i.1.natAbs < 72057594037927936∧i.2≠0∧i.2 < 72057594037927936,val:=fun i=>bK (mkRat i.1 i.2) }
def nW:bD:={ ι:=RV,args:=fun i=>[i.v],pre:=RV.ok,val:=fun i=>.tuple ⟨[aD i.n,aD i.d]⟩ }
abbrev nM:=RV × RV
def nM.ok (i:nM):Prop:=i.1.ok∧i.2.ok
def aN (p q:Rat):Int:=if p < q then -1 else if q < p then 1 else 0
def jW:bD:={ ι:=nM,args:=fun i=>[i.1.v,i.2.v],pre:=nM.ok,val:=fun i=>bK (i.1.q+i.2.q) }
def gh:bD:={ ι:=nM,args:=fun i=>[i.1.v,i.2.v],pre:=nM.ok,val:=fun i=>bK (i.1.q - i.2.q) }
def jX:bD:={ ι:=nM,args:=fun i=>[i.1.v,i.2.v],pre:=nM.ok,val:=fun i=>bK (i.1.q*i.2.q) }
def eD:bD:={ ι:=nM,args:=fun i=>[i.1.v,i.2.v],pre:=nM.ok,val:=fun i=>.int .i64 (aN i.1.q i.2.q) }
def yP:bD:={ ι:=RV,args:=fun i=>[i.v],pre:=RV.ok,val:=fun i=>bK i.q }
def kD:bD:={ ι:=Int,args:=fun n=>[.int .i64 n],pre:=fun n=>-9223372036854775808≤n∧n < 9223372036854775808,val:=fun n=>bK (n:Rat) }
theorem RV.GL {i:RV} (h:i.fN):-16777216 < i.n∧i.n < 16777216:=by
 have h1:=gu i.2.1;have J:C ^ i.2.1.size≤C ^ 3:=Nat.pow_le_pow_right (by decide) h.1
 have h3:ab i.2.1 < 16777216:=Nat.lt_of_lt_of_le h1 J;unfold RV.n;unfold aY
 split <;> omega
theorem RV.GM {i:RV} (h:i.fN):0 < i.d∧i.d < 16777216:=by
 have h1:=gu i.2.2;have J:C ^ i.2.2.size≤C ^ 3:=Nat.pow_le_pow_right (by decide) h.2
 have h3:ab i.2.2 < 16777216:=Nat.lt_of_lt_of_le h1 J;unfold RV.d
 split <;> omega
theorem RV.jY (i:RV):IV.z (false,i.den)=((i.d:Nat):Int):=by
 show ((ab i.den:Nat):Int)=_
 unfold RV.den RV.d
 split
 ·rw [ia]
 ·rfl
theorem RV.rT (i:RV):i.den.size≤i.2.2.size+1:=by
 unfold RV.den
 split
 ·exact Nat.le_trans GI (Nat.le_add_left _ _)
 ·exact Nat.le_succ _
theorem RV.ada (i:RV):i.q=mkRat i.n (IV.z (false,i.den)).natAbs:=by rw [RV.jY]; rfl
theorem Ko {a b:Int} (h1:-16777216 < a∧a < 16777216) (J:0 < b∧b < 16777216):-281474976710656 < a*b∧a*b < 281474976710656:=by
 have h3:(a*b).natAbs≤16777215*16777215:=by
  rw [Int.natAbs_mul];exact Nat.mul_le_mul (by omega) (by omega)
 omega
theorem Hg (a b:RV):a.q+b.q=mkRat (a.n*b.d+b.n*a.d) (a.d*b.d):=Rat.mkRat_add_mkRat _ _ a.jV b.jV
theorem Hh (a b:RV):a.q*b.q=mkRat (a.n*b.n) (a.d*b.d):=Rat.mkRat_mul_mkRat _ _ _ _
theorem yp (i:RV):i.q=(i.n:Rat) / ((i.d:Nat):Rat):=Rat.mkRat_eq_div _ _
theorem natCast_pos {d:Nat} (h:d≠0):(0:Rat) < ((d:Nat):Rat):=by
 have:((0:Nat):Rat) < ((d:Nat):Rat):=Rat.natCast_lt_natCast.2 (by omega)
 exact this
theorem adb (a b:RV):a.q < b.q↔a.n*b.d < b.n*a.d:=by
 have ha:=natCast_pos a.jV;have hb:=natCast_pos b.jV;have e:a.q < b.q↔(a.n:Rat)*((b.d:Nat):Rat) < (b.n:Rat)*((a.d:Nat):Rat):=by
  rw [yp,yp,Rat.div_lt_iff ha];rw [show (b.n:Rat) / ((b.d:Nat):Rat)*((a.d:Nat):Rat)=((b.n:Rat)*((a.d:Nat):Rat)) / ((b.d:Nat):Rat) by
   rw [Rat.div_def,Rat.div_def]; grind]
  rw [Rat.lt_div_iff hb]
 rw [e,← Rat.intCast_natCast,← Rat.intCast_natCast,← Rat.intCast_mul,← Rat.intCast_mul,Rat.intCast_lt_intCast]
theorem Cx (a b:RV):aN a.q b.q=dL (a.n*b.d) (b.n*a.d):=by
 unfold aN dL;simp only [adb]
theorem aby (i:RV):-i.q=RV.q (!i.1,i.2):=by
 show -mkRat i.n i.d=mkRat (aY (!i.1) (ab i.2.1)) i.d
 rw [Fy,Rat.neg_mkRat]
 rfl
theorem ij (n:Int):((n:Int):Rat)=mkRat n 1:=by
 have h:=Rat.mkRat_self ((n:Int):Rat);rw [Rat.num_intCast,Rat.den_intCast] at h;exact h.symm
theorem Pe {n e:Nat} (k:Int) (hk:k=((8*e:Nat):Int)) (he:e≤7):Int.fdiv (n:Int) (2 ^ min (Int.toNat k) IntKind.i64.bits)=((n / C ^ e:Nat):Int):=by
 subst hk;have e1:min (Int.toNat ((8*e:Nat):Int)) IntKind.i64.bits=8*e:=by
  show min (8*e) 64=8*e
  omega
 rw [e1];have e2:(2:Int) ^ (8*e)=((C ^ e:Nat):Int):=by
  rw [show C=2 ^ 8 from rfl,← Nat.pow_mul,Int.natCast_pow]; rfl
 rw [e2,Int.fdiv_eq_ediv_of_nonneg _ (Int.natCast_nonneg _),Int.natCast_ediv]
theorem abz {n:Nat} (h:n < 72057594037927936):n / C ^ 7=0:=Nat.div_eq_of_lt h
theorem Wl {P d m:Nat} (h:P < C ^ m) (hd:d < 256):P*256+d < C ^ (m+1):=by
 rw [Nat.pow_succ];show _ < C ^ m*256
 omega
theorem Wm {P d m:Nat} (h:C ^ (m - 1)≤P) (hm:1≤m):C ^ (m+1 - 1)≤P*256+d:=by
 rw [show m+1 - 1=m - 1+1 by omega,Nat.pow_succ]
 show C ^ (m - 1)*256≤_
 omega
theorem LK {P Q D m:Nat} {g:Nat→List Value} (h:P=Q*256+D) (hD:D < 256) (hg:∀ r,r < m→g r=[.int .u8 ((Q / C ^ (m - 1 - r) % C:Nat):Int)]) (r:Nat) (hr:r < m+1) :
  iD g m (fun j=>[[Value.int .u8 ((P % C:Nat):Int)]].getD j []) r=[.int .u8 ((P / C ^ (m+1 - 1 - r) % C:Nat):Int)]:=by
 by_cases h1:r < m
 ·rw [jh h1,hg r h1,show m+1 - 1 - r=(m - 1 - r)+1 by omega,Nat.pow_succ,Nat.mul_comm (C ^ _) C,← Nat.div_div_eq_div_mul,show P / C=Q by rw [h]; show (Q*256+D) / 256=Q; omega]
 ·obtain rfl:r=m:=by omega
  rw [gr (Nat.le_refl _),Nat.sub_self,show r+1 - 1 - r=0 by omega,Nat.pow_zero,Nat.div_one]
  rfl
theorem Gd {n:Int} {d g:Nat} (hn:n≠0) (hd:d≠0) (hg:g=Int.gcd n d):bK (mkRat n d)=.agg ⟨[.bool (decide (n < 0)),.string (nb (n.natAbs / g)),.string (fo (d / g))]⟩:=by
 have nN:0 < g:=by
  rw [hg]; exact Int.gcd_pos_of_ne_zero_left _ hn
 have e1:(mkRat n d).num=n / (g:Int):=by rw [← GJ n hd,← hg,Int.fdiv_eq_ediv_of_nonneg _ (by omega)]
 have e2:(mkRat n d).den=d / g:=by
  have:=GK n hd;rw [← hg,Int.fdiv_eq_ediv_of_nonneg _ (by omega),← Int.natCast_ediv] at this
  exact (Int.ofNat_inj.1 this).symm
 have Dw:(g:Int) ∣ n:=by rw [hg]; exact Int.gcd_dvd_left ..
 obtain ⟨q,hq⟩:=Dw;have e3:n / (g:Int)=q:=by rw [hq]; exact Int.mul_ediv_cancel_left _ (by omega)
 have e4:n.natAbs / g=q.natAbs:=by
  rw [hq,Int.natAbs_mul,Int.natAbs_natCast]; exact Nat.mul_div_cancel_left _ nN
 have e5:n < 0↔q < 0:=by
  rw [hq];constructor
  ·intro h;rcases Int.lt_or_le q 0 with J | J
   ·exact J
   ·have:=Int.mul_nonneg (show (0:Int)≤g by omega) J
    omega
  ·intro h; exact Int.mul_neg_of_pos_of_neg (by omega) h
 unfold bK;rw [e1,e2,e3,e4];rw [show decide (n < 0)=decide (q < 0) from by simp only [e5]]
theorem yj (d:Nat):bK (mkRat 0 d)=.agg ⟨[.bool false,.string ⟨#[]⟩,.string ⟨#[]⟩]⟩:=by
 rw [Rat.zero_mkRat];show Value.agg ⟨[.bool false,.string (nb 0),.string (fo 1)]⟩=_
 rw [oS]
 rfl
theorem U4 {a b:Int}:Int.gcd b (a.tmod b)=Int.gcd a b:=by
 show Nat.gcd b.natAbs (a.tmod b).natAbs=Nat.gcd a.natAbs b.natAbs
 rw [Int.natAbs_tmod,Nat.gcd_comm,← Nat.gcd_rec,Nat.gcd_comm]
theorem Nc (a:Int) (h:-72057594037927936 < a∧a < 72057594037927936):(if IntKind.i64.wrap (0 - a) > a then IntKind.i64.wrap (0 - a) else a)=((a.natAbs:Nat):Int):=by
 rw [ar (x:=0 - a) (by omega) (by omega)]
 split <;> omega
theorem Be {a g:Nat} (h:a < 72057594037927936):IntKind.i64.wrap (Int.tdiv (a:Int) (g:Int))=((a / g:Nat):Int):=by
 rw [Fx]; exact Mr (Nat.lt_of_le_of_lt (Nat.div_le_self _ _) h)
theorem AJ {n:Int} {d g:Nat} (hd:d≠0) (hg:g=Int.gcd n d):(d / g=1↔d=g)∧1≤d / g∧g≠0:=by
 have Dw:g ∣ d:=by
  have:((g:Nat):Int) ∣ (d:Int):=by rw [hg]; exact Int.gcd_dvd_right ..
  exact Int.natCast_dvd_natCast.1 this
 have nN:0 < g:=Nat.pos_of_dvd_of_pos Dw (Nat.pos_of_ne_zero hd);obtain ⟨q,rfl⟩:=Dw;rw [Nat.mul_div_cancel_left _ nN];have hq:q≠0:=by intro e; subst e; exact hd (Nat.mul_zero _)
 refine ⟨⟨fun h=>by rw [h,Nat.mul_one],fun h=>?_⟩,by omega,by omega⟩
 have:g*q=g*1:=by rw [Nat.mul_one]; exact h
 exact Nat.eq_of_mul_eq_mul_left nN this
theorem r0:-9223372036854775808≤(0:Int)∧(0:Int) < 9223372036854775808:=by decide
theorem r1:-9223372036854775808≤(1:Int)∧(1:Int) < 9223372036854775808:=by decide
theorem ub {n:Int} (h:-9223372036854775808≤n∧n < 9223372036854775808):aQ n.natAbs≤8:=fj (Nat.lt_of_le_of_lt (show n.natAbs≤9223372036854775808 by omega) (by decide))
theorem Kp (n e:Nat):n / C ^ e=n / C ^ (e+1)*256+n / C ^ e % 256:=by
 have:=D1 n e;omega
abbrev I4:=(Int × Nat) × (Int × Nat)
def I4.args (i:I4):List Value:=[.int .i64 i.1.1,.int .i64 i.1.2,.int .i64 i.2.1,.int .i64 i.2.2]
def jZ (i:Int × Nat):Prop:=(-16777216 < i.1∧i.1 < 16777216)∧0 < i.2∧i.2 < 16777216
def I4.ok (i:I4):Prop:=jZ i.1∧jZ i.2
def Cy:bD:={ ι:=I4,args:=I4.args,pre:=I4.ok,val:=fun i=>bK (mkRat (i.1.1*i.2.2+i.2.1*i.1.2) (i.1.2*i.2.2)) }
def Cz:bD:={ ι:=I4,args:=I4.args,pre:=I4.ok,val:=fun i=>bK (mkRat (i.1.1*i.2.1) (i.1.2*i.2.2)) }
def zc:bD:={ ι:=I4,args:=I4.args,pre:=I4.ok,val:=fun i=>.int .i64 (dL (i.1.1*i.2.2) (i.2.1*i.1.2)) }
abbrev FV:=(IV × IV) × (IV × IV)
def FV.args (i:FV):List Value:=[xu i.1.1 i.1.2,xu i.2.1 i.2.2]
def mA (i:IV × IV):Prop:=(i.1.2.size≤17179869184∧i.2.2.size≤17179869184)∧0 < i.2.z
def FV.ok (i:FV):Prop:=mA i.1∧mA i.2
def xw:bD:={ ι:=FV,args:=FV.args,pre:=FV.ok,val:=fun i=>bK (mkRat (i.1.1.z*i.2.2.z+i.2.1.z*i.1.2.z) (i.1.2.z*i.2.2.z).natAbs) }
def xx:bD:={ ι:=FV,args:=FV.args,pre:=FV.ok,val:=fun i=>bK (mkRat (i.1.1.z*i.2.1.z) (i.1.2.z*i.2.2.z).natAbs) }
def xy:bD:={ ι:=FV,args:=FV.args,pre:=FV.ok,val:=fun i=>.int .i64 (dL (i.1.1.z*i.2.2.z) (i.2.1.z*i.1.2.z)) }
theorem I4.bounds {i:I4} (h:i.ok):(-281474976710656 < i.1.1*i.2.2∧i.1.1*i.2.2 < 281474976710656)∧(-281474976710656 < i.2.1*i.1.2∧i.2.1*i.1.2 < 281474976710656)∧(-281474976710656 < i.1.1*i.2.1∧i.1.1*i.2.1 < 281474976710656)∧0 < i.1.2*i.2.2∧i.1.2*i.2.2 < 281474976710656:=by
 obtain ⟨⟨h1,J⟩,h3,h4⟩:=h;refine ⟨Ko h1 ⟨by omega,by omega⟩,Ko h3 ⟨by omega,by omega⟩,?_,Nat.mul_pos J.1 h4.1,?_⟩
 ·have:(i.1.1*i.2.1).natAbs≤16777215*16777215:=by
   rw [Int.natAbs_mul];exact Nat.mul_le_mul (by omega) (by omega)
  omega
 ·have:i.1.2*i.2.2≤16777215*16777215:=Nat.mul_le_mul (by omega) (by omega)
  omega
theorem EI.gD {x y:Int} {B:Bool} {m:ByteArray} {k l:Nat} (h:EI (x*y) B m) (hx:aQ x.natAbs≤k) (hy:aQ y.natAbs≤l):m.size≤k+l:=by
 rw [h.size,Int.natAbs_mul];exact Nat.le_trans (wR _ _) (Nat.add_le_add hx hy)
theorem EI.FD {x y:Int} {B:Bool} {m:ByteArray} {k:Nat} (h:EI (x+y) B m) (hx:aQ x.natAbs≤k) (hy:aQ y.natAbs≤k):m.size≤k+1:=by
 rw [h.size];exact Nat.le_trans (iO (Int.natAbs_add_le _ _)) (Nb hx hy)
theorem dB {b:Bool} {s:ByteArray} {k:Nat} (h:s.size≤k):aQ (IV.z (b,s)).natAbs≤k:=by
 unfold IV.z;rw [tU];exact Nat.le_trans (jg s) h
theorem RV.jZ {i:RV} (h:i.fN):Go.Ae.jZ (i.n,i.d):=⟨i.GL h,i.GM h⟩
theorem RV.mA {i:RV} (h:i.ok):Go.Ae.mA ((i.1,i.2.1),(false,i.den)):=⟨⟨by have:=h.1; show i.2.1.size≤_; omega,by have:=i.rT; have:=h.2; show i.den.size≤_; omega⟩,by
 show 0 < IV.z (false,i.den)
 rw [RV.jY];have:=i.jV;omega⟩
theorem Y7 (a b:RV):Cy.val ((a.n,a.d),(b.n,b.d))=bK (a.q+b.q):=by rw [Hg]; rfl
theorem Y8 (a b:RV):Cz.val ((a.n,a.d),(b.n,b.d))=bK (a.q*b.q):=by rw [Hh]; rfl
theorem Y9 (a b:RV):zc.val ((a.n,a.d),(b.n,b.d))=.int .i64 (aN a.q b.q):=by rw [Cx]; rfl
theorem Kq (a b:RV):(IV.z (false,a.den)*IV.z (false,b.den)).natAbs=a.d*b.d:=by
 rw [RV.jY,RV.jY,← Int.natCast_mul,Int.natAbs_natCast]
theorem Za (a b:RV):xw.val (((a.1,a.2.1),(false,a.den)),((b.1,b.2.1),(false,b.den)))=bK (a.q+b.q):=by
 show bK (mkRat (IV.z (a.1,a.2.1)*IV.z (false,b.den)+IV.z (b.1,b.2.1)*IV.z (false,a.den)) (IV.z (false,a.den)*IV.z (false,b.den)).natAbs)=_
 rw [Kq,RV.jY,RV.jY,Hg]
 rfl
theorem Zb (a b:RV):xx.val (((a.1,a.2.1),(false,a.den)),((b.1,b.2.1),(false,b.den)))=bK (a.q*b.q):=by
 show bK (mkRat (IV.z (a.1,a.2.1)*IV.z (b.1,b.2.1)) (IV.z (false,a.den)*IV.z (false,b.den)).natAbs)=_
 rw [Kq,Hh]
 rfl
theorem Zc (a b:RV):xy.val (((a.1,a.2.1),(false,a.den)),((b.1,b.2.1),(false,b.den)))=.int .i64 (aN a.q b.q):=by
 show Value.int .i64 (dL (IV.z (a.1,a.2.1)*IV.z (false,b.den)) (IV.z (b.1,b.2.1)*IV.z (false,a.den)))=_
 rw [RV.jY,RV.jY,Cx]
 rfl
open Go
def cK:bD:={ ι:=RV,args:=fun i=>[i.v],pre:=RV.ok,val:=fun i=>.int .i64 (aN i.q 0) }
def m5:bD:={ ι:=RV,args:=fun i=>[i.v],pre:=RV.ok,val:=fun i=>.int .i64 (if i=RV.of i.q then 0 else 1) }
def jx (n d:Int):Value:=.tuple ⟨[bK (Rat.divInt n d),.int .i64 (if d=0 then 10 else 0)]⟩
def uK:bD:={ ι:=kN,args:=fun i=>[i.1.v,i.2.v],pre:=kN.ok,val:=fun i=>jx i.1.z i.2.z }
def wS:bD:={ ι:=Int × Int,args:=fun i=>[.int .i64 i.1,.int .i64 i.2],pre:=fun i=>(-9223372036854775808≤i.1∧i.1 < 9223372036854775808)∧-9223372036854775808≤i.2∧i.2 < 9223372036854775808,val:=fun i=>jx i.1 i.2 }
theorem Zd (i:RV):aN i.q 0=dL i.n 0:=by
 have h:=Cx i (RV.of 0);rw [RV.ij,RV.Pc,RV.Pd] at h;rw [h];show dL (i.n*1) (0*_)=_
 rw [Int.mul_one,Int.zero_mul]
theorem cg (i j:RV):bz [.bool i.1,.string i.2.1,.string i.2.2] [.bool j.1,.string j.2.1,.string j.2.2]=decide (i=j):=by
 obtain ⟨a,b,c⟩:=i;obtain ⟨a',b',c'⟩:=j;simp only [bz,Bool.and_true,qk];by_cases h1:a=a' <;> by_cases J:b=b' <;> by_cases h3:c=c' <;> simp [h1,J,h3]
theorem KY {n d:Int} (h:0 < d):Rat.divInt n d=mkRat n d.natAbs:=by
 obtain ⟨k,rfl⟩:∃ k:Nat,d=k:=⟨d.natAbs,by omega⟩
 rw [Rat.divInt_ofNat,Int.natAbs_natCast]
theorem RN {n d:Int} (h:d < 0):Rat.divInt n d=mkRat (-n) (-d).natAbs:=by
 rw [← Rat.neg_divInt_neg,KY (by omega)]
theorem NQ (b:Bool) (s t:ByteArray):RV.q (!b,s,t)=-RV.q (b,s,t):=(aby (b,s,t)).symm
theorem abA:bK 0=.agg ⟨[.bool false,.string ⟨#[]⟩,.string ⟨#[]⟩]⟩:=by
 have:=yj 1
 rwa [Rat.zero_mkRat] at this
def Pf (q:Rat):Rat:=if q < 0 then -q else q
def RV.zd (i:RV):Prop:=60 < i.2.1.size∨60 < i.2.2.size
instance (i:RV):Decidable i.zd:=inferInstanceAs (Decidable (_∨_))
theorem tV {p q:Rat}:aN p q > 0↔q < p:=by
 unfold aN
 split
 ·rename_i h;constructor
  ·intro J; exact absurd J (by decide)
  ·intro J; grind
 ·split
  ·exact ⟨fun _=>by assumption,fun _=>by decide⟩
  ·exact ⟨fun h=>absurd h (by decide),fun h=>by contradiction⟩
theorem fA {p q:Rat}:aN p q < 0↔p < q:=by
 unfold aN
 split
 ·exact ⟨fun _=>by assumption,fun _=>by decide⟩
 ·split
  ·exact ⟨fun h=>absurd h (by decide),fun h=>by contradiction⟩
  ·exact ⟨fun h=>absurd h (by decide),fun h=>by contradiction⟩
theorem ade:nb 1=⟨#[1]⟩:=by
 rw [xt (n:=1) (by decide) (.inr (by decide))]
 rfl
open Go
abbrev PV:=RV × RV
def PV.cells (p:PV):List Value:=[.bool p.1.1,.string p.1.2.1,.string p.1.2.2,.bool p.2.1,.string p.2.2.1,.string p.2.2.2]
def PV.v (p:PV):Value:=.agg ⟨[.bool p.1.1,.string p.1.2.1,.string p.1.2.2,.bool p.2.1,.string p.2.2.1,.string p.2.2.2]⟩
def mK (x y:Rat):Value:=PV.v (RV.of x,RV.of y)
def RV.sz (k:Nat) (i:RV):Prop:=i.2.1.size≤k∧i.2.2.size≤k
def PV.sz (k:Nat) (p:PV):Prop:=p.1.sz k∧p.2.sz k
theorem RV.aT {k:Nat} {i:RV} (h:i.sz k) (hk:k≤8589934592):i.ok:=⟨Nat.le_trans h.1 hk,Nat.le_trans h.2 hk⟩
theorem RV.aJ {k l:Nat} {i:RV} (h:i.sz k) (hk:k≤l):i.sz l:=⟨Nat.le_trans h.1 hk,Nat.le_trans h.2 hk⟩
theorem PV.aJ {k l:Nat} {i:PV} (h:i.sz k) (hk:k≤l):i.sz l:=⟨RV.aJ h.1 hk,RV.aJ h.2 hk⟩
theorem RV.nm {q:Rat} {k:Nat} (h:QB q k):(RV.of q).sz k:=⟨by show (nb _).size≤_; rw [gE]; exact h.1,LJ h.2⟩
theorem RV.ke {i:RV} {k:Nat} (h:i.sz k) (hk:1≤k):QB i.q k:=RV.qb h.1 h.2 hk
def iX (a b:Rat):Rat:=if a < b then b else a
def iY (a b:Rat):Rat:=if b < a then b else a
def adf (a b:PV):Int:=if aN a.1.q b.1.q≠0 then aN a.1.q b.1.q else aN a.2.q b.2.q
abbrev nO:=PV × PV
def rm:Int→Prop:=fun n=>-9223372036854775808≤n∧n < 9223372036854775808
def qS:bD:={ ι:=Int × Int,args:=fun i=>[.int .i64 i.1,.int .i64 i.2],pre:=fun i=>rm i.1∧rm i.2,val:=fun i=>mK (i.1:Rat) (i.2:Rat) }
def I3 (i:nO):Prop:=i.1.sz 8589934592∧i.2.sz 8589934592
def Hi:bD:={ ι:=nO,args:=fun i=>[i.1.v,i.2.v],pre:=I3,val:=fun i=>mK (i.1.1.q+i.2.1.q) (i.1.2.q+i.2.2.q) }
def ld:bD:={ ι:=nO,args:=fun i=>[i.1.v,i.2.v],pre:=I3,val:=fun i=>mK (i.1.1.q - i.2.1.q) (i.1.2.q - i.2.2.q) }
def Ge:bD:={ ι:=PV × RV,args:=fun i=>[i.1.v,i.2.v],pre:=fun i=>i.1.sz 8589934592∧i.2.sz 8589934592,val:=fun i=>mK (i.1.1.q*i.2.q) (i.1.2.q*i.2.q) }
def adg (i:nO):Prop:=i.1.sz 1073741824∧i.2.sz 1073741824
def Ze (p q:PV):Rat:=p.1.q*q.2.q - p.2.q*q.1.q
def qe:bD:={ ι:=nO,args:=fun i=>[i.1.v,i.2.v],pre:=adg,val:=fun i=>bK (Ze i.1 i.2) }
def PV.canon (p:PV):Prop:=p.1=RV.of p.1.q∧p.2=RV.of p.2.q
instance (p:PV):Decidable p.canon:=inferInstanceAs (Decidable (_∧_))
def kj:bD:={ ι:=PV,args:=fun i=>[i.v],pre:=fun i=>i.sz 8589934592,val:=fun i=>.int .i64 (if i.canon then 0 else 1) }
def pj:bD:={ ι:=nO,args:=fun i=>[i.1.v,i.2.v],pre:=I3,val:=fun i=>.int .i64 (adf i.1 i.2) }
def adh (i:nO):Prop:=i.1.sz 268435456∧i.2.sz 268435456
def iZ:bD:={ ι:=nO × RV,args:=fun i=>[i.1.1.v,i.1.2.v,i.2.v],pre:=fun i=>adh i.1∧i.2.sz 268435456,val:=fun i=>mK (i.1.1.1.q+(i.1.2.1.q - i.1.1.1.q)*i.2.q) (i.1.1.2.q+(i.1.2.2.q - i.1.1.2.q)*i.2.q) }
def PV.zd (p:PV):Prop:=p.1.zd∨p.2.zd
instance (p:PV):Decidable p.zd:=inferInstanceAs (Decidable (_∨_))
theorem SB (p q:PV):bz p.cells q.cells=decide (p=q):=by
 obtain ⟨⟨a,b,c⟩,⟨d,e,f⟩⟩:=p;obtain ⟨⟨a',b',c'⟩,⟨d',e',f'⟩⟩:=q;simp only [PV.cells,bz,Bool.and_true,qk];by_cases h1:a=a' <;> by_cases J:b=b' <;> by_cases h3:c=c' <;> by_cases h4:d=d' <;> by_cases h5:e=e' <;> by_cases h6:f=f' <;> simp [h1,J,h3,h4,h5,h6]
def RV.cells (i:RV):List Value:=[.bool i.1,.string i.2.1,.string i.2.2]
def dq (l:List PV):Nat→List Value:=fun r=>(l.getD r ((false,⟨#[]⟩,⟨#[]⟩),(false,⟨#[]⟩,⟨#[]⟩))).cells
theorem FE {o:Bool} {n k:Nat} {g:Nat→List Value} {rows:List (List Value)} (h1:rows.length=n) (J:∀ r,r < n→rows.getD r []=g r) (h3:∀ r,r < n→mF (g r)=true):aO (.flat false n k g) (.aL o k rows) :=
 ⟨(fun h=>by cases h),rfl,by show n≤rows.length; omega,fun r hr=>by
  show g r=rows.getD r []
  exact (J r hr).symm,fun r hr v hv=>dz (h3 r hr) v hv⟩
theorem KZ (l:List PV) (r:Nat):mF (dq l r)=true:=rfl
open Go
theorem rO {l:List PV} {i:Nat} (h:i < l.length):∃ p,l[i]?=some p∧p∈l∧dq l i=p.cells:=by
 refine ⟨l[i],List.getElem?_eq_getElem h,List.getElem_mem h,?_⟩;unfold dq;rw [List.getD_eq_getElem?_getD,List.getElem?_eq_getElem h]
 rfl
theorem U5 {p q:Rat}:aN p q=1↔q < p:=by
 unfold aN
 split
 ·rename_i h;exact ⟨fun J=>absurd J (by decide),fun J=>by grind⟩
 ·split
  ·exact ⟨fun _=>by assumption,fun _=>rfl⟩
  ·exact ⟨fun h=>absurd h (by decide),fun h=>by contradiction⟩
theorem TW {p q:Rat}:aN p q=-1↔p < q:=by
 unfold aN
 split
 ·exact ⟨fun _=>by assumption,fun _=>rfl⟩
 ·split
  ·exact ⟨fun h=>absurd h (by decide),fun h=>by contradiction⟩
  ·exact ⟨fun h=>absurd h (by decide),fun h=>by contradiction⟩
theorem QB.max {p q:Rat} {k:Nat} (hp:QB p k) (hq:QB q k):QB (iX p q) k:=by
 unfold iX; split <;> assumption
theorem QB.min {p q:Rat} {k:Nat} (hp:QB p k) (hq:QB q k):QB (iY p q) k:=by
 unfold iY; split <;> assumption
theorem QB.abs {p:Rat} {k:Nat} (hp:QB p k):QB (Pf p) k:=by
 unfold Pf; split
 ·exact hp.neg
 ·exact hp
abbrev XV:=PV × PV
def XV.v (b:XV):Value:=.agg ⟨[.bool b.1.1.1,.string b.1.1.2.1,.string b.1.1.2.2,.bool b.1.2.1,.string b.1.2.2.1,.string b.1.2.2.2,.bool b.2.1.1,.string b.2.1.2.1,.string b.2.1.2.2,.bool b.2.2.1,.string b.2.2.2.1,.string b.2.2.2.2]⟩
def XV.cells (b:XV):List Value:=[.bool b.1.1.1,.string b.1.1.2.1,.string b.1.1.2.2,.bool b.1.2.1,.string b.1.2.2.1,.string b.1.2.2.2,.bool b.2.1.1,.string b.2.1.2.1,.string b.2.1.2.2,.bool b.2.2.1,.string b.2.2.2.1,.string b.2.2.2.2]
def Ow (b:XV) (p:PV):Prop:=b.1.1.q≤p.1.q∧p.1.q≤b.2.1.q∧b.1.2.q≤p.2.q∧p.2.q≤b.2.2.q
instance (b:XV) (p:PV):Decidable (Ow b p):=inferInstanceAs (Decidable (_∧_∧_∧_))
def U6:bD:={ ι:=XV × PV,args:=fun i=>[i.1.v,i.2.v],pre:=fun i=>(i.1.1.sz 268435456∧i.1.2.sz 268435456)∧i.2.sz 268435456,val:=fun i=>.bool (decide (Ow i.1 i.2)) }
theorem BN {p q:Rat}:aN p q≤0↔p≤q:=by
 have:=tV (p:=p) (q:=q);constructor
 ·intro h; have:¬ q < p:=fun e=>by have:=this.2 e; omega
  grind
 ·intro h; have:¬ aN p q > 0:=fun e=>by have:=this.1 e; grind
  omega
theorem oU {p q:Rat}:aN p q ≥ 0↔q≤p:=by
 have:=fA (p:=p) (q:=q);constructor
 ·intro h; have:¬ p < q:=fun e=>by have:=this.2 e; omega
  grind
 ·intro h; have:¬ aN p q < 0:=fun e=>by have:=this.1 e; grind
  omega
open Go
def qI:bD:={ ι:=nM,args:=fun i=>[i.1.v,i.2.v],pre:=nM.ok,val:=fun i=>.tuple ⟨[bK (i.1.q / i.2.q),.int .i64 (if i.2.q=0 then 10 else 0)]⟩ }
theorem SC (b:RV):b.q=0↔b.n=0:=by
 have hb:=natCast_pos b.jV;rw [yp,Rat.div_def];constructor
 ·intro h;rcases Rat.mul_eq_zero.1 h with h | h
  ·exact_mod_cast h
  ·exfalso;have J:((b.d:Nat):Rat)*((b.d:Nat):Rat)⁻¹=1:=Rat.mul_inv_cancel _ (by grind)
   rw [h] at J;grind
 ·intro h;rw [h];simp
theorem abB (a b:RV):jx (a.n*b.d) (a.d*b.n)=.tuple ⟨[bK (a.q / b.q),.int .i64 (if b.q=0 then 10 else 0)]⟩:=by
 have ha:=natCast_pos a.jV;have hb:=natCast_pos b.jV;have e1:Rat.divInt (a.n*b.d) (a.d*b.n)=a.q / b.q:=by
  rw [Rat.divInt_eq_div,yp a,yp b,Rat.intCast_mul,Rat.intCast_mul,Rat.intCast_natCast,Rat.intCast_natCast];by_cases h:(b.n:Rat)=0
  ·rw [h]; simp [Rat.div_def]
  ·grind
 have e2:((a.d:Int)*b.n=0)↔b.q=0:=by
  rw [SC];constructor
  ·intro h;rcases Int.mul_eq_zero.1 h with h | h
   ·have:=a.jV; omega
   ·exact h
  ·intro h; rw [h]; simp
 unfold jx;rw [e1];simp only [e2]
open Go
theorem Qa (i:RV):bz [.bool i.1,.string i.2.1,.string i.2.2] [.bool i.1,.string i.2.1,.string i.2.2]=true:=by
 rw [cg i i]; exact decide_eq_true rfl
instance (n:Int):Decidable (rm n):=inferInstanceAs (Decidable (_∧_))
def NR:bD:={ ι:=Unit,args:=fun _=>[],pre:=fun _=>True,val:=fun _=>.bool true }
def aZ:RV:=(false,⟨#[]⟩,⟨#[]⟩)
theorem jN (k:Nat):aZ.sz k:=⟨Nat.zero_le _,Nat.zero_le _⟩
theorem yQ {n:Int} (h:n.natAbs < 256):QB (n:Rat) 1:=by
 have e1:(n:Rat).num=n:=Rat.num_intCast n;have e2:(n:Rat).den=1:=Rat.den_intCast n;refine ⟨?_,?_⟩
 ·rw [e1]; exact fj (show n.natAbs < C ^ 1 from h)
 ·rw [e2]; exact fj (show 1 < C ^ 1 by decide)
open Go
abbrev PL:=Option (List PV × Nat)
def PL.val:PL→Value
 | none=>.slice none 0 0
 | some i=>.slice (some ⟨0,0,none⟩) i.1.length i.2
def PL.aj:PL→List ah
 | none=>[]
 | some i=>[.flat false i.1.length 6 (dq i.1)]
def PL.list:PL→List PV
 | none=>[]
 | some i=>i.1
def PL.ok (i:PL):Prop:=i.list.length≤9223372036854775807
def np:XV:=((aZ,aZ),(aZ,aZ))
theorem yz:aZ.q=0:=by
 show mkRat (aY false (ab ⟨#[]⟩)) _=0
 exact Rat.zero_mkRat _
open Go
theorem eqX (b:XV):bz [.bool b.1.1.1,.string b.1.1.2.1,.string b.1.1.2.2,.bool b.1.2.1,.string b.1.2.2.1,.string b.1.2.2.2,.bool b.2.1.1,.string b.2.1.2.1,.string b.2.1.2.2,.bool b.2.2.1,.string b.2.2.2.1,.string b.2.2.2.2] [.bool b.1.1.1,.string b.1.1.2.1,.string b.1.1.2.2,.bool b.1.2.1,.string b.1.2.2.1,.string b.1.2.2.2,.bool b.2.1.1,.string b.2.1.2.1,.string b.2.1.2.2,.bool b.2.2.1,.string b.2.2.2.1,.string b.2.2.2.2]=true:=by
 simp [bz]
open Go
structure Bounds (l:List PV) (X:XV):Prop where
 inb:∀ p∈l,U6.val (X,p)=.bool true
 sz:X.1.sz 268435456∧X.2.sz 268435456
 c1:kj.val X.1=.int .i64 0
 c2:kj.val X.2=.int .i64 0
 l1:∃ p∈l,p.1.q=X.1.1.q
 l2:∃ p∈l,p.1.q=X.2.1.q
 l3:∃ p∈l,p.2.q=X.1.2.q
 l4:∃ p∈l,p.2.q=X.2.2.q
theorem cc {p q:Rat}:aN p q=0↔p=q:=by
 have h1:=BN (p:=p) (q:=q);have J:=oU (p:=p) (q:=q);constructor
 ·intro h; have:=h1.1 (by omega); have:=J.1 (by omega); grind
 ·intro h; have:=h1.2 (by grind); have:=J.2 (by grind); omega
theorem aO.rP {o o':Bool} {n e:Nat} {g f:Nat→List Value} (h:o=true→o'=true) (hf:∀ r,r < n→f r=g r) (hs:∀ r,r < n→mF (g r)=true):aO (.flat o n e g) (.flat o' n e f) :=
 ⟨fun ho=>⟨h ho,rfl⟩,rfl,Nat.le_refl _,fun r hr=>(hf r hr).symm,fun r hr v hv=>dz (hs r hr) v hv⟩
open Go
abbrev Q2:=Rat × Rat
def PV.p (a:PV):Q2:=(a.1.q,a.2.q)
def cA (p:Q2):PV:=(RV.of p.1,RV.of p.2)
theorem ie (p:Q2):(cA p).p=p:=by
 show ((RV.of p.1).q,(RV.of p.2).q)=p
 rw [RV.ij,RV.ij]
def sQ (b a:Q2):Q2:=(b.1 - a.1,b.2 - a.2)
def CZ (u v:Q2):Rat:=u.1*v.1+u.2*v.2
def nX (u v:Q2):Rat:=u.1*v.2 - u.2*v.1
theorem Nd (b a:PV):ld.val (b,a)=(cA (sQ b.p a.p)).v:=rfl
theorem TX (u v:PV):qe.val (u,v)=(RV.of (nX u.p v.p)).v:=rfl
theorem U7 (r:RV):cK.val r=.int .i64 (aN r.q 0):=rfl
def Q2.sz (k:Nat) (p:Q2):Prop:=QB p.1 k∧QB p.2 k
theorem PV.c9 {a:PV} {k:Nat} (h:a.sz k) (hk:1≤k):Q2.sz k a.p:=⟨RV.ke h.1 hk,RV.ke h.2 hk⟩
theorem xe {p:Q2} {k l:Nat} (h:Q2.sz k p) (hl:k≤l):(cA p).sz l:=⟨RV.aJ (RV.nm h.1) hl,RV.aJ (RV.nm h.2) hl⟩
theorem o5 {a b:Q2} {k l:Nat} (ha:Q2.sz k a) (hb:Q2.sz l b):Q2.sz (k+l+1) (sQ a b):=⟨ha.1.sub hb.1,ha.2.sub hb.2⟩
theorem Zf {a b:Q2} {k l:Nat} (ha:Q2.sz k a) (hb:Q2.sz l b):QB (CZ a b) (k+l+(k+l)+1):=(ha.1.mul hb.1).add (ha.2.mul hb.2)
theorem yq {a b:Q2} {k l:Nat} (ha:Q2.sz k a) (hb:Q2.sz l b):QB (nX a b) (k+l+(k+l)+1):=(ha.1.mul hb.2).sub (ha.2.mul hb.1)
theorem Zg {q:Rat} {k:Nat} (h:QB q k) (hk:k≤8589934592):(RV.of q).ok:=RV.sE (h.mono hk)
def an (a b c:Q2):Rat:=nX (sQ b a) (sQ c a)
abbrev xS:=PV × PV × PV
def C0 (i:xS):Prop:=i.1.sz 1048576∧i.2.1.sz 1048576∧i.2.2.sz 1048576
def mw:bD:={ ι:=xS,args:=fun i=>[i.1.v,i.2.1.v,i.2.2.v],pre:=C0,val:=fun i=>.int .i64 (aN (an i.1.p i.2.1.p i.2.2.p) 0) }
def C1 (a b p:Q2):Prop:=an a b p=0∧CZ (sQ a p) (sQ b p)≤0
instance (a b p:Q2):Decidable (C1 a b p):=inferInstanceAs (Decidable (_∧_))
def lP (v:Q2):Int:=if v.1=0∧v.2=0 then 0 else if 0 < v.2∨v.2=0∧0 < v.1 then 1 else 2
def sR (u v:Q2):Int:=if lP u < lP v then -1 else if lP v < lP u then 1 else -aN (nX u v) 0
abbrev TV:=PV × PV × PV
def TV.v (t:TV):Value:=.agg ⟨t.1.cells++(t.2.1.cells++t.2.2.cells)⟩
def xz (u p:Q2):Q2:=(CZ u p,nX u p)
def adi (u v w:Q2):Prop:=lP u≠0∧lP v≠0∧lP w≠0∧sR (xz u w) (xz u u)≠0∧(sR (xz u v) (xz u u)=0∨sR (xz u w) (xz u v) < 0)
instance (u v w:Q2):Decidable (adi u v w):=inferInstanceAs (Decidable (_∧_))
open Go
def fF (a b:Q2):Int:=if aN a.1 b.1≠0 then aN a.1 b.1 else aN a.2 b.2
theorem Nf {p q:Rat} (h:p < q):aN p q=-1:=TW.2 h
theorem Ng {p q:Rat} (h:q < p):aN p q=1:=U5.2 h
theorem Gf {p q:Rat} (h:p=q):aN p q=0:=cc.2 h
theorem Qb (q:Rat):q < 0∨q=0∨0 < q:=by
 by_cases h:q < 0
 ·exact .inl h
 ·by_cases J:0 < q
  ·exact .inr (.inr J)
  ·exact .inr (.inl (by grind))
theorem A3 (q:Rat):(q < 0∧aN q 0=-1)∨(q=0∧aN q 0=0)∨(0 < q∧aN q 0=1):=by
 rcases Qb q with h | h | h
 ·exact .inl ⟨h,Nf h⟩
 ·exact .inr (.inl ⟨h,Gf h⟩)
 ·exact .inr (.inr ⟨h,Ng h⟩)
theorem FF (p q:Rat):aN p q=aN (p - q) 0:=by
 rcases A3 (p - q) with ⟨h1,J⟩ | ⟨h1,J⟩ | ⟨h1,J⟩ <;> rw [J]
 ·exact Nf (by grind)
 ·exact Gf (by grind)
 ·exact Ng (by grind)
theorem TY {a b:Q2}:fF a b=0↔a.1=b.1∧a.2=b.2:=by
 unfold fF;by_cases h:aN a.1 b.1=0
 ·rw [if_neg (by simp [h]),cc]
  exact ⟨fun J=>⟨cc.1 h,J⟩,fun J=>J.2⟩
 ·rw [if_pos h];exact ⟨fun J=>absurd J h,fun J=>cc.2 J.1⟩
theorem pW (p q:Rat):aN p q=-1∨aN p q=0∨aN p q=1:=by
 unfold aN; split
 ·exact .inl rfl
 ·split
  ·exact .inr (.inr rfl)
  ·exact .inr (.inl rfl)
theorem K0 (a b:Q2):fF a b=-1∨fF a b=0∨fF a b=1:=by
 unfold fF; split <;> exact pW _ _
open Go
open Go
def H1 (u:Q2):Prop:=0 < u.2∨u.2=0∧0 < u.1
def H2 (u:Q2):Prop:=u.2 < 0∨u.2=0∧u.1 < 0
open Go
theorem sG {x:Q2} {k:Nat} (h:Q2.sz k x):∃ u:PV,(cA x).v=u.v∧u.p=x∧u.sz k∧Q2.sz k u.p :=
 ⟨cA x,rfl,ie x,xe h (Nat.le_refl _),by rw [ie]; exact h⟩
theorem fm {q:Rat} {k:Nat} (h:QB q k):∃ r:RV,(RV.of q).v=r.v∧r.q=q∧r.sz k∧QB r.q k :=
 ⟨RV.of q,rfl,RV.ij q,RV.nm h,by rw [RV.ij]; exact h⟩
theorem RV.abC {a b:RV} (h:a.v=b.v):a.1=b.1∧a.2.1=b.2.1∧a.2.2=b.2.2:=by
 have h:Value.agg ⟨[.bool a.1,.string a.2.1,.string a.2.2]⟩=Value.agg ⟨[.bool b.1,.string b.2.1,.string b.2.2]⟩:=h;simp only [Value.agg.injEq,Array.mk.injEq,List.cons.injEq,Value.bool.injEq,Value.string.injEq] at h;exact ⟨h.1,h.2.1,h.2.2.1⟩
theorem RV.lZ {a b:RV} (h:a.v=b.v):a=b:=by
 obtain ⟨h1,J,h3⟩:=RV.abC h;exact Prod.ext h1 (Prod.ext J h3)
theorem PV.lZ {a b:PV} (h:a.v=b.v):a=b:=by
 have h:Value.agg ⟨[.bool a.1.1,.string a.1.2.1,.string a.1.2.2,.bool a.2.1,.string a.2.2.1,.string a.2.2.2]⟩=Value.agg ⟨[.bool b.1.1,.string b.1.2.1,.string b.1.2.2,.bool b.2.1,.string b.2.2.1,.string b.2.2.2]⟩:=h;simp only [Value.agg.injEq,Array.mk.injEq,List.cons.injEq,Value.bool.injEq,Value.string.injEq] at h;obtain ⟨h1,J,h3,h4,h5,h6,_⟩:=h;exact Prod.ext (Prod.ext h1 (Prod.ext J h3)) (Prod.ext h4 (Prod.ext h5 h6))
theorem dJ (n:Int):∃ m:Int,Value.int .i64 n=Value.int .i64 m∧m=n:=⟨n,rfl,rfl⟩
theorem jn {x:Q2} {k:Nat} (h:Q2.sz k x):∃ u:PV,u=cA x∧(cA x).v=u.v∧u.p=x∧u.sz k∧Q2.sz k u.p :=
 ⟨cA x,rfl,rfl,ie x,xe h (Nat.le_refl _),by rw [ie]; exact h⟩
theorem qz {q:Rat} {k:Nat} (h:QB q k):∃ r:RV,r=RV.of q∧(RV.of q).v=r.v∧r.q=q∧r.sz k∧QB r.q k :=
 ⟨RV.of q,rfl,rfl,RV.ij q,RV.nm h,by rw [RV.ij]; exact h⟩
theorem uY (a b:Int) (ha:a.natAbs < 256) (hb:b.natAbs < 256):Q2.sz 1 ((a:Rat),(b:Rat)) :=
 ⟨yQ ha,yQ hb⟩
theorem C2 (p q:PV):bz [.bool p.1.1,.string p.1.2.1,.string p.1.2.2,.bool p.2.1,.string p.2.2.1,.string p.2.2.2] [.bool q.1.1,.string q.1.2.1,.string q.1.2.2,.bool q.2.1,.string q.2.2.1,.string q.2.2.2]=decide (p=q):=SB p q
theorem QB.of_int {n:Int} {k:Nat} (h:aQ n.natAbs≤k) (hk:1≤k):QB (n:Rat) k:=⟨by rw [Rat.num_intCast]; exact h,by rw [Rat.den_intCast]; exact Nat.le_trans (fj (show 1 < C ^ 1 by decide)) hk⟩
theorem QB.inv {q:Rat} {k:Nat} (h:QB q k) (hk:1≤k):QB q⁻¹ k:=by
 by_cases hq:q=0
 ·subst hq;have:(0:Rat)⁻¹=0:=by simp
  rw [this]; exact h
 ·have e:q⁻¹=Rat.divInt q.den q.num:=Rat.inv_def q;rw [e];have hn:q.num≠0:=fun e=>hq (Rat.num_eq_zero.1 e)
  rcases Int.lt_or_gt_of_ne hn with h1 | h1
  ·have e2:Rat.divInt q.den q.num=mkRat (-(q.den:Int)) q.num.natAbs:=by
    obtain ⟨m,hm⟩:∃ m:Nat,q.num=-(m:Int):=⟨q.num.natAbs,by omega⟩
    rw [hm];rw [Rat.divInt_neg'];simp
   rw [e2];exact QB.mk (by omega) (by rw [Int.natAbs_neg,Int.natAbs_natCast]; exact h.2) h.1
  ·have e2:Rat.divInt q.den q.num=mkRat (q.den:Int) q.num.natAbs:=by
    obtain ⟨m,hm⟩:∃ m:Nat,q.num=(m:Int):=⟨q.num.natAbs,by omega⟩
    rw [hm];simp
   rw [e2];exact QB.mk (by omega) (by rw [Int.natAbs_natCast]; exact h.2) h.1
theorem QB.div {p q:Rat} {k l:Nat} (hp:QB p k) (hq:QB q l) (hl:1≤l):QB (p / q) (k+l):=by
 rw [Rat.div_def]; exact hp.mul (hq.inv hl)
def atR (a b:Q2) (t:Rat):Q2:=(a.1+(b.1 - a.1)*t,a.2+(b.2 - a.2)*t)
theorem j3 {a b:Q2} {t:Rat} {k l m:Nat} (ha:Q2.sz k a) (hb:Q2.sz l b) (ht:QB t m):Q2.sz (k+(l+k+1+m)+1) (atR a b t) :=
 ⟨ha.1.add ((hb.1.sub ha.1).mul ht),ha.2.add ((hb.2.sub ha.2).mul ht)⟩
open Go
abbrev R3:=RV × RV × RV
def R3.v (i:R3):Value:=.agg ⟨[.bool i.1.1,.string i.1.2.1,.string i.1.2.2,.bool i.2.1.1,.string i.2.1.2.1,.string i.2.1.2.2,.bool i.2.2.1,.string i.2.2.2.1,.string i.2.2.2.2]⟩
def R3.get (i:R3):Nat→RV | 0=>i.1 | 1=>i.2.1 | _=>i.2.2
def R3.sz (k:Nat) (i:R3):Prop:=i.1.sz k∧i.2.1.sz k∧i.2.2.sz k
def R3.rows (i:R3):Nat→List Value:=fun r=>(i.get r).cells
def R3.cells (i:R3):List Value:=[.bool i.1.1,.string i.1.2.1,.string i.1.2.2,.bool i.2.1.1,.string i.2.1.2.1,.string i.2.1.2.2,.bool i.2.2.1,.string i.2.2.2.1,.string i.2.2.2.2]
theorem R3.aG (i:R3):aO (.flat false 1 9 (fun _=>i.cells)) (.aL true 9 [i.cells]) :=
 FE rfl (fun r hr=>by
  have:r=0:=by omega
  subst this; rfl) (fun r hr=>rfl)
def TV.w (t:TV):Value:=.agg ⟨[.bool t.1.1.1,.string t.1.1.2.1,.string t.1.1.2.2,.bool t.1.2.1,.string t.1.2.2.1,.string t.1.2.2.2,.bool t.2.1.1.1,.string t.2.1.1.2.1,.string t.2.1.1.2.2,.bool t.2.1.2.1,.string t.2.1.2.2.1,.string t.2.1.2.2.2,.bool t.2.2.1.1,.string t.2.2.1.2.1,.string t.2.2.1.2.2,.bool t.2.2.2.1,.string t.2.2.2.2.1,.string t.2.2.2.2.2]⟩
def sg (q:Rat):Int:=aN q 0
def inR (a b c p:Q2):Prop:=sg (an a b c)≠0∧sg (an a b p)=sg (an a b c)∧sg (an b c p)=sg (an a b c)∧sg (an c a p)=sg (an a b c)
instance (a b c p:Q2):Decidable (inR a b c p):=inferInstanceAs (Decidable (_∧_))
def onR (a b c p:Q2):Prop:=C1 a b p∨C1 b c p∨C1 c a p
instance (a b c p:Q2):Decidable (onR a b c p):=inferInstanceAs (Decidable (_∨_))
def Zh (u v w:Q2):Prop:=(lP u≠0∧lP v≠0∧lP w≠0)∧if sR u v < 0 then sR u w < 0∧sR w v < 0 else sR u w < 0∨sR w v < 0
instance (u v w:Q2):Decidable (Zh u v w):=inferInstanceAs (Decidable (_∧_))
def hs (u:Q2):Int:=if lP u=2 then -1 else 1
structure Tri (u v w:Q2) (a b c x y z:Int):Prop where
 hu:lP u=a
 hv:lP v=b
 hw:lP w=c
 ra:a=1∨a=2
 rb:b=1∨b=2
 rc:c=1∨c=2
 uv:sg (nX u v)=x
 uw:sg (nX u w)=y
 wv:sg (nX w v)=z
open Go
instance (k:Nat) (p:PV):Decidable (p.sz k):=inferInstanceAs (Decidable ((_∧_)∧(_∧_)))
def uq (k:Nat) (l:List PV):Bool:=l.any fun p=>decide (¬ p.sz k)
theorem D9 {k:Nat} {l:List PV} {p:PV} (h:p∈l) (hg:¬ p.sz k):uq k l=true:=List.any_eq_true.2 ⟨p,h,decide_eq_true hg⟩
theorem Rl {k:Nat} {l:List PV} (h:uq k l=false):∀ p∈l,p.sz k:=fun p hp=>by
 refine Classical.byContradiction fun hg=>?_
 rw [D9 hp hg] at h; cases h
def uc (k:Nat) (l:List PV) (i:Nat):Prop:=∀ p∈l.take i,p.sz k
theorem JQ (k:Nat) (l:List PV):uc k l 0:=fun p hp=>by simp at hp
theorem J6 {k:Nat} {l:List PV} {i:Nat} {p:PV} (h:uc k l i) (hp:l[i]?=some p) (hg:p.sz k):uc k l (i+1):=fun q hq=>by
 rw [List.take_add_one,hp] at hq;simp only [Option.toList_some,List.mem_append,List.mem_singleton] at hq;rcases hq with hq | rfl
 ·exact h q hq
 ·exact hg
theorem Kr {k:Nat} {l:List PV} (h:uc k l l.length):uq k l=false:=by
 cases e:uq k l
 ·rfl
 ·obtain ⟨p,hp,hg⟩:=List.any_eq_true.1 e;rw [uc,List.take_length] at h;exact absurd (h p hp) (of_decide_eq_true hg)
theorem Nh (l:List PV):aO (.flat false l.length 6 (dq l)) (.aL true 6 (l.map PV.cells)) :=
 FE (by simp) (fun r hr=>by
  unfold dq;rw [List.getD_eq_getElem?_getD,List.getD_eq_getElem?_getD,List.getElem?_map,List.getElem?_eq_getElem hr]
  rfl) (fun r hr=>rfl)
def PL.CA (i:PL) (k:Nat):Value:=match i with | none=>.slice none 0 0 | some j=>.slice (some ⟨k,0,none⟩) j.1.length j.2
abbrev rn:=PL × PL
def kv:cI:={ ι:=rn,args:=fun i=>[i.1.val,i.2.CA i.1.aj.length],aj:=fun i=>i.1.aj++i.2.aj,pre:=fun i=>i.1.list.length≤1099511627776∧i.2.list.length≤1099511627776,val:=fun i=>.bool (decide (i.1.list=i.2.list)),new:=fun _=>none }
def uZ (l m:List PV) (i:Nat):Prop:=l.take i=m.take i
theorem SD (l m:List PV):uZ l m 0:=rfl
theorem TZ {l m:List PV} {i:Nat} {p q:PV} (h:uZ l m i) (hp:l[i]?=some p) (hq:m[i]?=some q) (e:p=q):uZ l m (i+1):=by
 unfold uZ at *;rw [List.take_add_one,List.take_add_one,hp,hq,h,e]
theorem U8 {l m:List PV} (h:uZ l m l.length) (hl:l.length=m.length):l=m:=by
 unfold uZ at h;rw [List.take_length] at h;rw [h,hl,List.take_length]
theorem abD {l m:List PV} {i:Nat} {p q:PV} (hp:l[i]?=some p) (hq:m[i]?=some q) (e:p≠q):l≠m:=fun h=>by
 subst h; rw [hp] at hq; exact e (Option.some.inj hq)
section
variable (f:PV→PV→Int)
def sS (x:PV):List PV→List PV
 | []=>[x]
 | y::r=>if f x y < 0 then y::sS x r else x::y::r
def xH (l:List PV):List PV:=l.foldl (fun a x=>sS f x a) []
theorem T0 {l:List PV} {x:PV}:xH f (l++[x])=sS f x (xH f l):=by unfold xH; rw [List.foldl_append]; rfl
end
structure adM (f:PV→PV→Int):Prop where
 adW:∀ x y,f y x=-f x y
 trans:∀ x y z,f x y≤0→f y z≤0→f x z≤0
def Ox (f:PV→PV→Int) (l:List PV) (i:Nat):List PV:=(xH f (l.take i)).reverse++l.drop i
structure Ag (f:PV→PV→Int) (l:List PV) (i j:Nat) (x:PV) (r B L:List PV):Prop where
 at_:l[i]?=some x
 acc:xH f (l.take i)=B++r
 ins:sS f x (xH f (l.take i))=B++sS f x r
 len:r.length=j
 all:L=r.reverse++x::(B.reverse++l.drop (i+1))
theorem Ag.step {f:PV→PV→Int} {l:List PV} {i j:Nat} {x y:PV} {r B L:List PV} (h:Ag f l i j x (y::r) B L) (hf:f x y < 0) :
  Ag f l i (j - 1) x r (B++[y]) (r.reverse++x::y::(B.reverse++l.drop (i+1))):=by
 refine ⟨h.at_,by rw [h.acc]; simp,?_,?_,by simp⟩
 ·have e:sS f x (y::r)=y::sS f x r:=by
   show (if f x y < 0 then _ else _)=_
   rw [if_pos hf]
  rw [h.ins,e];simp
 ·have:=h.len; simp at this; omega
theorem Ag.done {f:PV→PV→Int} {l:List PV} {i j:Nat} {x:PV} {r B L:List PV} (h:Ag f l i j x r B L) (hs:sS f x r=x::r):L=Ox f l (i+1):=by
 rw [h.all];unfold Ox;rw [List.take_add_one,h.at_];simp only [Option.toList_some];rw [T0,h.ins,hs];simp
open Go
open Go
open Go
open Go
open Go
abbrev Q3:=Rat × Rat × Rat
def R3.q (l:R3):Q3:=(l.1.q,l.2.1.q,l.2.2.q)
def Q3.sz (k:Nat) (l:Q3):Prop:=QB l.1 k∧QB l.2.1 k∧QB l.2.2 k
theorem R3.aJ {l:R3} {k m:Nat} (h:l.sz k) (hk:k≤m):l.sz m:=⟨RV.aJ h.1 hk,RV.aJ h.2.1 hk,RV.aJ h.2.2 hk⟩
theorem Q3.mono {l:Q3} {k m:Nat} (h:Q3.sz k l) (hk:k≤m):Q3.sz m l:=⟨h.1.mono hk,h.2.1.mono hk,h.2.2.mono hk⟩
theorem Q2.mono {l:Q2} {k m:Nat} (h:Q2.sz k l) (hk:k≤m):Q2.sz m l:=⟨h.1.mono hk,h.2.mono hk⟩
def ze:R3:=(aZ,aZ,aZ)
def rr (l:Q3):Q2:=(l.1,l.2.1)
def R3.n (l:R3):PV:=(l.1,l.2.1)
def bd (l:Q3) (p:Q2):Rat:=CZ (rr l) p - l.2.2
def mP (l:Q3):Prop:=¬ (l.1=0∧l.2.1=0)
instance (l:Q3):Decidable (mP l):=inferInstanceAs (Decidable (¬ (_∧_)))
def eL (p q:Q2):Q3:=(p.2 - q.2,q.1 - p.1,(p.2 - q.2)*p.1+(q.1 - p.1)*p.2)
def qT (l m:Q3):Rat:=nX (rr l) (rr m)
def HS (l m:Q3):Q2:=((l.2.2*m.2.1 - l.2.1*m.2.2) / qT l m,(l.1*m.2.2 - l.2.2*m.1) / qT l m)
def CB:PV:=(aZ,aZ)
def LE.v (x:R3 × Int):Value:=.tuple ⟨[x.1.v,.int .i64 x.2]⟩
def PE.v (x:PV × Int):Value:=.tuple ⟨[x.1.v,.int .i64 x.2]⟩
def ZE.v (x:Int × Int):Value:=.tuple ⟨[.int .i64 x.1,.int .i64 x.2]⟩
def RV.pC (i:RV):Prop:=20 < i.2.1.size∨20 < i.2.2.size
instance (i:RV):Decidable i.pC:=inferInstanceAs (Decidable (_∨_))
def R3.pC (l:R3):Prop:=l.1.pC∨l.2.1.pC∨l.2.2.pC
instance (l:R3):Decidable l.pC:=inferInstanceAs (Decidable (_∨_∨_))
def PV.pC (p:PV):Prop:=p.1.pC∨p.2.pC
instance (l:PV):Decidable l.pC:=inferInstanceAs (Decidable (_∨_))
open Go
theorem U9 (k:Nat):ze.sz k:=⟨jN _,jN _,jN _⟩
theorem Va (k:Nat):CB.sz k:=⟨jN _,jN _⟩
theorem p5 {k:Nat}:QB aZ.q (k+1):=RV.ke (jN _) (by omega)
theorem Vb (k:Nat):Q3.sz (k+1) ze.q:=⟨p5,p5,p5⟩
theorem Vc (k:Nat):Q2.sz (k+1) CB.p:=⟨p5,p5⟩
theorem NS {p q:Q2} {k l:Nat} (hp:Q2.sz k p) (hq:Q2.sz l q):Q3.sz (k+l+1+k+(k+l+1+k)+1) (eL p q) :=
 ⟨(hp.2.sub hq.2).mono (by omega),(hq.1.sub hp.1).mono (by omega),(((hp.2.sub hq.2).mul hp.1).add (((hq.1.sub hp.1).mono (show l+k+1≤k+l+1 by omega)).mul hp.2)).mono (by omega)⟩
theorem NT {l:Q3} {p:Q2} {k m:Nat} (hl:Q3.sz k l) (hp:Q2.sz m p):QB (bd l p) (k+m+(k+m)+1+k+1):=(Zf (a:=rr l) ⟨hl.1,hl.2.1⟩ hp).sub hl.2.2
theorem NU {l:Q3} {k:Nat} (hl:Q3.sz k l):Q2.sz k (rr l):=⟨hl.1,hl.2.1⟩
theorem NV {l m:Q3} {k j:Nat} (hl:Q3.sz k l) (hm:Q3.sz j m):QB (qT l m) (k+j+(k+j)+1):=yq (NU hl) (NU hm)
theorem Zi {l m:Q3} {k j:Nat} (hl:Q3.sz k l) (hm:Q3.sz j m):Q2.sz (k+j+(k+j)+1+(k+j+(k+j)+1)) (HS l m) :=
 ⟨((hl.2.2.mul hm.2.1).sub (hl.2.1.mul hm.2.2)).div (NV hl hm) (by omega),((hl.1.mul hm.2.2).sub (hl.2.2.mul hm.1)).div (NV hl hm) (by omega)⟩
theorem z3 {k:Nat} (h:1≤k):ze.sz k∧Q3.sz k ze.q:=⟨U9 _,Q3.mono (Vb 0) h⟩
theorem z2 {k:Nat} (h:1≤k):CB.sz k∧Q2.sz k CB.p:=⟨Va _,Q2.mono (Vc 0) h⟩
theorem R3.lZ {a b:R3} (h:a.v=b.v):a=b:=by
 have h:Value.agg ⟨[.bool a.1.1,.string a.1.2.1,.string a.1.2.2,.bool a.2.1.1,.string a.2.1.2.1,.string a.2.1.2.2,.bool a.2.2.1,.string a.2.2.2.1,.string a.2.2.2.2]⟩=Value.agg ⟨[.bool b.1.1,.string b.1.2.1,.string b.1.2.2,.bool b.2.1.1,.string b.2.1.2.1,.string b.2.1.2.2,.bool b.2.2.1,.string b.2.2.2.1,.string b.2.2.2.2]⟩:=h;simp only [Value.agg.injEq,Array.mk.injEq,List.cons.injEq,Value.bool.injEq,Value.string.injEq] at h;obtain ⟨h1,J,h3,h4,h5,h6,h7,h8,h9,_⟩:=h;exact Prod.ext (Prod.ext h1 (Prod.ext J h3)) (Prod.ext (Prod.ext h4 (Prod.ext h5 h6)) (Prod.ext h7 (Prod.ext h8 h9)))
theorem jE:QB (2:Rat) 1:=yQ (n:=2) (by decide)
open Go
theorem fC (a b c:Q2):an a b c=(b.1 - a.1)*(c.2 - a.2) - (b.2 - a.2)*(c.1 - a.1):=rfl
theorem wT (a b c:Q2):an a b c=an b c a:=by rw [fC,fC]; grind
theorem yr (a b c:Q2):an a c b=-an a b c:=by rw [fC,fC]; grind
theorem BO (a b:Q2):an a a b=0:=by rw [fC]; grind
theorem r8 (a b:Q2):an a b a=0:=by rw [fC]; grind
theorem qf (a b:Q2):an a b b=0:=by rw [fC]; grind
theorem Mt (a b c d:Q2) (t:Rat):an (atR a b t) c d=(1 - t)*an a c d+t*an b c d:=by
 simp only [fC,atR]; grind
theorem Vd (a b c d:Q2) (t:Rat):an c (atR a b t) d=(1 - t)*an c a d+t*an c b d:=by
 simp only [fC,atR]; grind
theorem FG (a b c d:Q2) (t:Rat):an c d (atR a b t)=(1 - t)*an c d a+t*an c d b:=by
 simp only [fC,atR]; grind
theorem tJ {x y t:Rat} (h0:0≤t) (h1:t≤1) (hx:0≤x) (hy:0≤y):0≤(1 - t)*x+t*y:=by
 have a:=Rat.mul_nonneg (show 0≤1 - t by grind) hx
 have b:=Rat.mul_nonneg h0 hy;grind
def pk (a:Q2) (l:List Q2):Prop:=l.Pairwise (fun b c=>0≤an a b c)
def bG:List Q2→Prop
 | []=>True
 | a::l=>pk a l∧bG l
theorem bG.sublist {l m:List Q2} (h:bG m) (hs:l.Sublist m):bG l:=by
 induction hs with
 | slnil=>exact trivial
 | cons a hs ih=>exact ih h.2
 | cons_cons a hs ih=>exact ⟨h.1.sublist hs,ih h.2⟩
theorem bG.filter {l:List Q2} (h:bG l) (f:Q2→Bool):bG (l.filter f):=h.sublist List.filter_sublist
theorem pk.ins {a p q:Q2} {t:Rat} {A B:List Q2} (h0:0≤t) (h1:t≤1) (h:pk a (A++p::q::B)):pk a (A++p::atR p q t::q::B):=by
 unfold pk at *;rw [List.pairwise_append] at h ⊢;obtain ⟨hA,hB,ow⟩:=h;rw [List.pairwise_cons,List.pairwise_cons] at hB;obtain ⟨hp,hq,hB⟩:=hB;refine ⟨hA,?_,?_⟩
 ·rw [List.pairwise_cons,List.pairwise_cons,List.pairwise_cons];refine ⟨?_,?_,hq,hB⟩
  ·intro z hz;rcases List.mem_cons.1 hz with rfl | hz
   ·rw [FG,qf];exact tJ h0 h1 (by grind) (hp _ (List.mem_cons_self ..))
   ·exact hp z hz
  ·intro z hz;rw [Vd];rcases List.mem_cons.1 hz with rfl | hz
   ·exact tJ h0 h1 (hp _ (List.mem_cons_self ..)) (by rw [qf]; grind)
   ·exact tJ h0 h1 (hp _ (List.mem_cons_of_mem _ hz)) (hq _ hz)
 ·intro y hy z hz;rcases List.mem_cons.1 hz with rfl | hz
  ·exact ow y hy _ (List.mem_cons_self ..)
  ·rcases List.mem_cons.1 hz with rfl | hz
   ·rw [FG];exact tJ h0 h1 (ow y hy _ (List.mem_cons_self ..)) (ow y hy _ (List.mem_cons_of_mem _ (List.mem_cons_self ..)))
   ·exact ow y hy _ (List.mem_cons_of_mem _ hz)
theorem bG.ins {p q:Q2} {t:Rat} {A B:List Q2} (h0:0≤t) (h1:t≤1) (h:bG (A++p::q::B)):bG (A++p::atR p q t::q::B):=by
 induction A with
 | cons a A ih=>exact ⟨h.1.ins h0 h1,ih h.2⟩
 | nil =>
  obtain ⟨hp,hq,hB⟩:=h;refine ⟨pk.ins (A:=[]) (p:=p) h0 h1 (by
   show List.Pairwise _ (p::q::B)
   rw [List.pairwise_cons];exact ⟨fun z hz=>by rw [BO]; grind,hp⟩) |>.sublist (List.sublist_cons_self ..),?_,hq,hB⟩
  unfold pk at *;rw [List.pairwise_cons] at hp ⊢;obtain ⟨hp,hpB⟩:=hp;refine ⟨fun z hz=>?_,?_⟩
  ·rw [Mt,BO];exact tJ h0 h1 (hp z hz) (by grind)
  ·exact (hpB.and hq).imp (fun ⟨x,y⟩=>by rw [Mt]; exact tJ h0 h1 x y)
theorem bG.snoc {A:List Q2} {x:Q2} (h:bG A) (hx:A.Pairwise (fun y z=>0≤an y z x)):bG (A++[x]):=by
 induction A with
 | nil=>exact ⟨.nil,trivial⟩
 | cons a A ih =>
  rw [List.pairwise_cons] at hx;refine ⟨?_,ih h.2 hx.2⟩;show List.Pairwise _ (A++[x])
  rw [List.pairwise_append];exact ⟨h.1,by simp,fun y hy z hz=>by simp at hz; subst hz; exact hx.1 y hy⟩
theorem bG.adj {a:Q2} {l:List Q2} (h:bG (a::l)):bG (l++[a]) :=
 h.2.snoc (h.1.imp (fun {y z} h=>by rw [wT,wT]; rw [← wT] at *; first | exact h | (rw [wT]; exact h)))
theorem bG.vD {A B:List Q2} (h:bG (A++B)):bG (B++A):=by
 induction A generalizing B with
 | nil=>rw [List.append_nil]; exact h
 | cons a A ih =>
  have:bG ((A++B)++[a]):=h.adj;rw [List.append_assoc] at this;have:=ih this
  rwa [List.append_assoc] at this
theorem bG.last {p h0:Q2} {t:Rat} {A:List Q2} (h1:0≤t) (J:t≤1) (h:bG (A++[p])) (hh:(A++[p]).head?=some h0):bG (A++[p,atR p h0 t]):=by
 have:=h.vD;cases A with
 | nil =>
  simp at hh; subst hh;exact ⟨by unfold pk; simp,by unfold pk; simp,trivial⟩
 | cons a A =>
  simp at hh; subst hh;have:=bG.ins (A:=[]) h1 J this;have:=bG.vD (A:=[p,atR p a t]) (B:=a::A) this;exact this
open Go
def cl {α:Type} (l:List α):List (α × α):=l.zip l.tail
def a8 {α:Type} (l:List α):List (α × α):=cl (l++l.head?.toList)
theorem mn {α:Type} (p q:α) (l:List α):cl (p::q::l)=(p,q)::cl (q::l):=rfl
theorem wa {α:Type} (A B:List α) (x:α):cl (A++x::B)=cl (A++[x])++cl (x::B):=by
 induction A with
 | nil=>rfl
 | cons a A ih =>
  cases A with
  | nil=>rfl
  | cons b A =>
   show (a,b)::cl (b::A++x::B)=(a,b)::cl (b::A++[x])++_
   rw [ih]; rfl
theorem SE {α:Type} {l:List α} {e:α × α} (h:e∈cl l):e.1∈l∧e.2∈l:=by
 have:=List.of_mem_zip h;exact ⟨this.1,List.mem_of_mem_tail this.2⟩
theorem wb {α:Type} (h:α) (l:List α):a8 (h::l)=cl (h::l++[h]):=rfl
theorem nS {α:Type} {l:List α} {e:α × α} (h:e∈a8 l):e.1∈l∧e.2∈l:=by
 cases l with
 | nil=>cases h
 | cons a l =>
  have:=SE h;simp at this ⊢;exact ⟨by rcases this.1 with h | h | h <;> simp [h],by rcases this.2 with h | h | h <;> simp [h]⟩
theorem Bf {α:Type} {A B:List α} {e:α × α} (h:e∈a8 (A++B)):e∈a8 (B++A):=by
 cases A with
 | nil=>rw [List.append_nil]; exact h
 | cons a A =>
  cases B with
  | nil=>rw [List.append_nil] at h; exact h
  | cons b B =>
   have h1:a8 (a::A++b::B)=cl (a::A++[b])++cl (b::B++[a]):=by
    show cl ((a::A++b::B)++[a])=_
    rw [List.append_assoc];exact wa (a::A) (B++[a]) b
   have J:a8 (b::B++a::A)=cl (b::B++[a])++cl (a::A++[b]):=by
    show cl ((b::B++a::A)++[b])=_
    rw [List.append_assoc];exact wa (b::B) (A++[b]) a
   rw [h1] at h;rw [J];rcases List.mem_append.1 h with h | h
   ·exact List.mem_append_right _ h
   ·exact List.mem_append_left _ h
theorem SF {α:Type} {l:List α} {i:Nat} {p q:α} (hp:l[i]?=some p) (hq:l[i+1]?=some q):(cl l)[i]?=some (p,q):=by
 unfold cl;rw [List.getElem?_zip_eq_some];exact ⟨hp,by rw [List.getElem?_tail]; exact hq⟩
theorem mX {α:Type} (l:List α):(a8 l).length=l.length:=by
 cases l with
 | nil=>rfl
 | cons a l=>rw [wb]; unfold cl; simp
theorem rQ {α:Type} {l:List α} {i:Nat} {p q:α} (hp:l[i]?=some p) (hq:l[(i+1) % l.length]?=some q):(a8 l)[i]?=some (p,q):=by
 cases l with
 | nil=>simp at hp
 | cons a l =>
  have hi:i < (a::l).length:=(List.getElem?_eq_some_iff.1 hp).1;rw [wb];refine SF (by rw [List.getElem?_append_left hi]; exact hp) ?_
  rcases Nat.lt_or_eq_of_le (show i+1≤(a::l).length from hi) with h | h
  ·rw [Nat.mod_eq_of_lt h] at hq;rw [List.getElem?_append_left h]; exact hq
  ·rw [h,Nat.mod_self] at hq;rw [List.getElem?_append_right (by omega),h,Nat.sub_self]
   exact hq
theorem kV (l:Q3) (p:Q2):bd l p=l.1*p.1+l.2.1*p.2 - l.2.2:=rfl
theorem Bu (m:Q3) (a b:Q2) (t:Rat):bd m (atR a b t)=(1 - t)*bd m a+t*bd m b:=by
 simp only [kV,atR]; grind
def jo (m:Q3) (p q:Q2):Rat:=bd m p / (bd m p - bd m q)
def gK (m:Q3) (p q:Q2):List Q2:=if aN (bd m p) 0*aN (bd m q) 0 < 0 then [atR p q (jo m p q)] else []
def nq (m:Q3) (p:Q2):List Q2:=if aN (bd m p) 0 ≥ 0 then [p] else []
def fh (m:Q3) (l:List Q2):List Q2:=(a8 l).flatMap fun e=>nq m e.1++gK m e.1 e.2
def Pg (m:Q3) (l:List Q2):List Q2:=(a8 l).flatMap fun e=>e.1::gK m e.1 e.2
theorem Bg {m:Q3} {p q:Q2}:aN (bd m p) 0*aN (bd m q) 0 < 0↔(0 < bd m p∧bd m q < 0)∨(bd m p < 0∧0 < bd m q):=by
 rcases A3 (bd m p) with ⟨h1,J⟩ | ⟨h1,J⟩ | ⟨h1,J⟩ <;> rcases A3 (bd m q) with ⟨h3,h4⟩ | ⟨h3,h4⟩ | ⟨h3,h4⟩ <;> rw [J,h4] <;> constructor <;> intro h <;> first | grind | omega
theorem Ve {x y:Rat} (h:(0 < x∧y < 0)∨(x < 0∧0 < y)):0≤x / (x - y)∧x / (x - y)≤1∧(x / (x - y))*(x - y)=x:=by
 have aH:x - y≠0:=by grind
 have e:(x / (x - y))*(x - y)=x:=by rw [Rat.div_def]; grind
 refine ⟨?_,?_,e⟩
 ·rcases h with ⟨h1,J⟩ | ⟨h1,J⟩
  ·by_cases h3:x / (x - y) < 0
   ·have:=Rat.mul_pos (show 0 < -(x / (x - y)) by grind) (show 0 < x - y by grind); grind
   ·grind
  ·by_cases h3:x / (x - y) < 0
   ·have:=Rat.mul_pos (show 0 < -(x / (x - y)) by grind) (show 0 < y - x by grind); grind
   ·grind
 ·rcases h with ⟨h1,J⟩ | ⟨h1,J⟩
  ·by_cases h3:1 < x / (x - y)
   ·have:=Rat.mul_pos (show 0 < x / (x - y) - 1 by grind) (show 0 < x - y by grind); grind
   ·grind
  ·by_cases h3:1 < x / (x - y)
   ·have:=Rat.mul_pos (show 0 < x / (x - y) - 1 by grind) (show 0 < y - x by grind); grind
   ·grind
theorem x6 {m:Q3} {p q x:Q2} (h:x∈gK m p q):((0 < bd m p∧bd m q < 0)∨(bd m p < 0∧0 < bd m q))∧x=atR p q (jo m p q)∧0≤jo m p q∧jo m p q≤1∧bd m x=0:=by
 unfold gK at h
 split at h
 ·rename_i h1;have h1:=Bg.1 h1;simp at h;obtain ⟨J,h3,h4⟩:=Ve h1;refine ⟨h1,h,J,h3,?_⟩;rw [h,Bu];unfold jo;grind
 ·cases h
theorem E7 {m:Q3} {p q:Q2} (h:(0 < bd m p∧bd m q < 0)∨(bd m p < 0∧0 < bd m q)):gK m p q=[atR p q (jo m p q)]:=by
 unfold gK; rw [if_pos (Bg.2 h)]
theorem J7 (m:Q3) (p q:Q2):gK m p q=[]∨(gK m p q=[atR p q (jo m p q)]∧0≤jo m p q∧jo m p q≤1):=by
 by_cases h:aN (bd m p) 0*aN (bd m q) 0 < 0
 ·have h1:=E7 (Bg.1 h);have:=x6 (x:=atR p q (jo m p q)) (by rw [h1]; simp)
  exact .inr ⟨h1,this.2.2.1,this.2.2.2.1⟩
 ·left; unfold gK; rw [if_neg h]
theorem SG (m:Q3) (l:List Q2):fh m l=(Pg m l).filter fun p=>decide (0≤bd m p):=by
 unfold fh Pg;rw [List.filter_flatMap]
 congr 1
 funext e
 rw [List.filter_cons];have h1:(gK m e.1 e.2).filter (fun p=>decide (0≤bd m p))=gK m e.1 e.2:=by
  rw [List.filter_eq_self];intro x hx;have:=(x6 hx).2.2.2.2;rw [this]; decide
 rw [h1];unfold nq;by_cases h:0≤bd m e.1
 ·rw [if_pos (oU.2 h),if_pos (by simpa using h)]; rfl
 ·rw [if_neg (fun J=>h (oU.1 J)),if_neg (by simpa using h)]; rfl
theorem Vf (m:Q3) {h:Q2}:∀ (B:List Q2) (p:Q2) (A:List Q2),bG (A++p::B)→(A++p::B).head?=some h→bG (A++(cl (p::B++[h])).flatMap fun e=>e.1::gK m e.1 e.2):=by
 intro B
 induction B with
 | nil =>
  intro p A ht hh;show bG (A++((p::gK m p h)++[]))
  rw [List.append_nil];rcases J7 m p h with e | ⟨e,h1,J⟩
  ·rw [e]; exact ht
  ·rw [e]; exact ht.last h1 J hh
 | cons q B ih =>
  intro p A ht hh;show bG (A++((p::gK m p q)++(cl (q::B++[h])).flatMap fun e=>e.1::gK m e.1 e.2))
  rw [← List.append_assoc];rcases J7 m p q with e | ⟨e,h1,J⟩
  ·rw [e];exact ih q (A++[p]) (by rw [List.append_assoc]; exact ht) (by rw [List.append_assoc]; exact hh)
  ·rw [e];refine ih q (A++[p,atR p q (jo m p q)]) ?_ ?_
   ·rw [List.append_assoc]; exact ht.ins h1 J
   ·cases A with
    | nil=>exact hh
    | cons a A=>exact hh
theorem Vg {m:Q3} {l:List Q2} (h:bG l):bG (fh m l):=by
 rw [SG];refine bG.filter ?_ _;cases l with
 | nil=>exact trivial
 | cons a l=>exact Vf m l a [] h rfl
open Go
def gV (P:List Q2) (p:Q2):Prop:=∀ f:Q3,(∀ v∈P,0≤bd f v)→0≤bd f p
theorem gV.o6 {P:List Q2} {v:Q2} (h:v∈P):gV P v:=fun f hf=>hf v h
theorem gV.trans {P Q:List Q2} {p:Q2} (h:gV P p) (hq:∀ v∈P,gV Q v):gV Q p:=fun f hf=>h f (fun v hv=>hq v hv f hf)
theorem gV.mono {P Q:List Q2} {p:Q2} (h:gV P p) (hq:∀ v∈P,v∈Q):gV Q p:=h.trans fun v hv=>.o6 (hq v hv)
theorem gV.nil (p:Q2):¬ gV [] p:=fun h=>by
 have:=h (0,0,1) (fun v hv=>nomatch hv)
 rw [kV] at this;grind
theorem gV.at {P:List Q2} {a b:Q2} {t:Rat} (ha:gV P a) (hb:gV P b) (h0:0≤t) (h1:t≤1):gV P (atR a b t):=fun f hf=>by
 rw [Bu]; exact tJ h0 h1 (ha f hf) (hb f hf)
theorem Wn {m:Q3} {P:List Q2} {x:Q2} (h:x∈fh m P):(x∈P∧0≤bd m x)∨∃ e∈a8 P,x∈gK m e.1 e.2:=by
 unfold fh at h;obtain ⟨e,he,hx⟩:=List.mem_flatMap.1 h;rcases List.mem_append.1 hx with hx | hx
 ·left
  unfold nq at hx
  split at hx
  ·rename_i hc;simp at hx;rw [hx];exact ⟨(nS he).1,oU.1 hc⟩
  ·cases hx
 ·exact .inr ⟨e,he,hx⟩
theorem bG.mid {v w x:Q2} {A B:List Q2} (h:bG (v::A++w::B)) (hx:x∈v::A++[w]):an v w x≤0:=by
 have hl:List.Pairwise (fun b c=>0≤an v b c) (A++w::B):=h.1
 rw [List.pairwise_append] at hl;simp only [List.cons_append,List.mem_cons,List.mem_append,List.not_mem_nil,or_false] at hx;rcases hx with rfl | hx | rfl
 ·rw [r8]; grind
 ·have:=hl.2.2 x hx w (List.mem_cons_self ..);rw [yr]; grind
 ·rw [qf]; grind
theorem bG.back {v w x:Q2} {A B:List Q2} (h:bG (v::A++w::B)) (hx:x∈w::B++[v]):0≤an v w x:=by
 have hl:List.Pairwise (fun b c=>0≤an v b c) (A++w::B):=h.1
 rw [List.pairwise_append,List.pairwise_cons] at hl;simp only [List.cons_append,List.mem_cons,List.mem_append,List.not_mem_nil,or_false] at hx;rcases hx with rfl | hx | rfl
 ·rw [qf]; grind
 ·exact hl.2.1.1 x hx
 ·rw [r8]; grind
open Go
def pO (a b:Q2):Q3:=(-(b.2 - a.2),b.1 - a.1,(b.1 - a.1)*a.2 - (b.2 - a.2)*a.1)
theorem oV (a b z:Q2):bd (pO a b) z=an a b z:=by simp only [kV,fC,pO]; grind
def HT (f g:Q3):Q3:=(f.1+g.1,f.2.1+g.2.1,f.2.2+g.2.2)
theorem Mu (f g:Q3) (z:Q2):bd (HT f g) z=bd f z+bd g z:=by simp only [kV,HT]; grind
theorem Gg {a b:Q2} (h:a≠b):mP (pO a b):=fun ⟨h1,J⟩=>h (Prod.ext (by unfold pO at J; grind) (by unfold pO at h1; grind))
theorem J8 {α:Type} {l:List α} {e:α × α} (h:e∈cl l):∃ A B,l=A++e.1::e.2::B:=by
 induction l with
 | nil=>cases h
 | cons a l ih =>
  cases l with
  | nil=>cases h
  | cons b l =>
   rw [mn] at h;rcases List.mem_cons.1 h with rfl | h
   ·exact ⟨[],l,rfl⟩
   ·obtain ⟨A,B,ow⟩:=ih h;exact ⟨a::A,B,by rw [ow]; rfl⟩
theorem Vh {α:Type} {P:List α} {a b:α} (h:(a,b)∈a8 P):(P=[a]∧b=a)∨∃ X Y M,P=X++Y∧Y++X=a::b::M:=by
 cases P with
 | nil=>cases h
 | cons c l =>
  obtain ⟨A,B,ow⟩:=J8 h;have ow:c::l++[c]=A++a::b::B:=ow;rcases List.eq_nil_or_concat B with rfl | ⟨B,d,rfl⟩
  ·have h1:c::l++[c]=(A++[a])++[b]:=by rw [ow]; simp
   have J:=List.append_inj' h1 rfl;simp at J;obtain ⟨J,h3⟩:=J;cases A with
   | nil =>
    simp at J
    left; rw [J.1,J.2]; exact ⟨rfl,h3.symm.trans J.1⟩
   | cons x A =>
    right
    refine ⟨x::A,[a],A,by rw [J],?_⟩
    have:c=x:=by injection J
    show a::x::A=_
    rw [← this,h3]
  ·have h1:c::l++[c]=(A++a::b::B)++[d]:=by rw [ow]; simp
   have J:=(List.append_inj' h1 rfl).1
   right
   exact ⟨A,a::b::B,B++A,J,rfl⟩
theorem pX {P:List Q2} {a b z:Q2} (hT:bG P) (h:(a,b)∈a8 P) (hz:z∈P):0≤an a b z:=by
 rcases Vh h with ⟨rfl,rfl⟩ | ⟨X,Y,M,rfl,J⟩
 ·rw [BO]; grind
 ·have th:=hT.vD;rw [J] at th;have oq:z∈a::b::M:=by
   rw [← J]; rcases List.mem_append.1 hz with h | h
   ·exact List.mem_append_right _ h
   ·exact List.mem_append_left _ h
  have:=th.1;unfold pk at this;rw [List.pairwise_cons] at this;rcases List.mem_cons.1 oq with rfl | oq
  ·rw [r8]; grind
  ·rcases List.mem_cons.1 oq with rfl | oq
   ·rw [qf]; grind
   ·exact this.1 z oq
theorem E8 {P:List Q2} {a b z:Q2} (hT:bG P) (h:(a,b)∈a8 P) (hz:gV P z):0≤an a b z:=by
 rw [← oV];exact hz _ fun v hv=>by rw [oV]; exact pX hT h hv
def gg (P:List Q2) (v:Q2):Prop:=gV P v∧∃ f,bd f v=0∧∀ z,gV P z→z≠v→0 < bd f z
def iF (P Q:List Q2):Prop:=∀ p,gV P p↔gV Q p
theorem iF.symm {P Q:List Q2} (h:iF P Q):iF Q P:=fun p=>(h p).symm
theorem iF.trans {P Q R:List Q2} (h:iF P Q) (g:iF Q R):iF P R:=fun p=>(h p).trans (g p)
theorem iF.rfl' {P:List Q2}:iF P P:=fun p=>Iff.rfl
theorem iF.o6 {P Q:List Q2} (h:∀ v,v∈P↔v∈Q):iF P Q:=fun p=>⟨fun hp=>hp.mono fun v hv=>(h v).1 hv,fun hp=>hp.mono fun v hv=>(h v).2 hv⟩
theorem gg.same {P Q:List Q2} {v:Q2} (h:gg P v) (hs:iF P Q):gg Q v :=
 ⟨(hs v).1 h.1,h.2.imp fun f hf=>⟨hf.1,fun z hz aH=>hf.2 z ((hs z).2 hz) aH⟩⟩
theorem T1 (f:Q3):∀ P:List Q2,(∀ v∈P,0 < bd f v)→∃ e:Rat,0 < e∧∀ v∈P,e≤bd f v:=by
 intro P
 induction P with
 | nil=>exact fun _=>⟨1,by grind,fun v hv=>by cases hv⟩
 | cons a P ih =>
  intro h;obtain ⟨e,he,hP⟩:=ih fun v hv=>h v (List.mem_cons_of_mem _ hv)
  have ha:=h a (List.mem_cons_self ..);by_cases hc:e≤bd f a
  ·exact ⟨e,he,fun v hv=>by rcases List.mem_cons.1 hv with rfl | hv; exact hc; exact hP v hv⟩
  ·exact ⟨bd f a,ha,fun v hv=>by
    rcases List.mem_cons.1 hv with rfl | hv
    ·grind
    ·have:=hP v hv; grind⟩
theorem gg.mem {P:List Q2} {v:Q2} (h:gg P v):v∈P:=by
 refine Decidable.byContradiction fun hn=>?_
 obtain ⟨h1,f,J,h3⟩:=h;obtain ⟨e,he,h4⟩:=T1 f P fun z hz=>h3 z (.o6 hz) fun e=>hn (e ▸ hz)
 have:=h1 (f.1,f.2.1,f.2.2+e) fun z hz=>by
  have:=h4 z hz;have e2:bd (f.1,f.2.1,f.2.2+e) z=bd f z - e:=by simp only [kV]; grind
  rw [e2]; grind
 have e2:bd (f.1,f.2.1,f.2.2+e) v=bd f v - e:=by simp only [kV]; grind
 rw [e2,J] at this;grind
theorem Wo {p v q z:Q2} (h1:an p v z=0) (J:an v q z=0) (h:an p v q≠0):z=v:=by
 rw [fC] at h1 J h;have a:((v.1 - p.1)*(q.2 - p.2) - (v.2 - p.2)*(q.1 - p.1))*(z.1 - v.1)=0:=by grind
 have b:((v.1 - p.1)*(q.2 - p.2) - (v.2 - p.2)*(q.1 - p.1))*(z.2 - v.2)=0:=by grind
 have a:=(Rat.mul_eq_zero.1 a).resolve_left h;have b:=(Rat.mul_eq_zero.1 b).resolve_left h;exact Prod.ext (by grind) (by grind)
theorem K1 {P:List Q2} {p v q:Q2} (hT:bG P) (h1:(p,v)∈a8 P) (J:(v,q)∈a8 P) (h:an p v q≠0):gg P v:=by
 refine ⟨.o6 (nS J).1,HT (pO p v) (pO v q),?_,fun z hz aH=>?_⟩
 ·rw [Mu,oV,oV,qf,r8]; grind
 ·rw [Mu,oV,oV];have a:=E8 hT h1 hz;have b:=E8 hT J hz;by_cases h0:an p v z+an v q z=0
  ·exact absurd (Wo (by grind) (by grind) h) aH
  ·grind
theorem gg.AU {P:List Q2} {v a b:Q2} {t:Rat} (h:gg P v) (ha:gV P a) (hb:gV P b) (hav:a≠v) (hbv:b≠v) (h0:0 < t) (h1:t < 1):v≠atR a b t:=fun e=>by
 obtain ⟨_,f,J,h3⟩:=h;have x:=h3 a ha hav;have y:=h3 b hb hbv;rw [e,Bu] at J;have:=Rat.mul_pos (show 0 < 1 - t by grind) x
 have:=Rat.mul_pos h0 y;grind
def Flat (P:List Q2):Prop:=∃ f,mP f∧∀ v∈P,bd f v=0
theorem Vi {P:List Q2} {a b:Q2} (h:¬ Flat P) (ef:a≠b):∃ z∈P,an a b z≠0:=by
 refine Decidable.byContradiction fun hn=>h ⟨pO a b,Gg ef,fun v hv=>?_⟩
 rw [oV];exact Decidable.byContradiction fun h=>hn ⟨v,hv,h⟩
theorem Flat.mono {P Q:List Q2} (h:Flat Q) (hs:∀ v∈P,v∈Q):Flat P:=h.imp fun f hf=>⟨hf.1,fun v hv=>hf.2 v (hs v hv)⟩
theorem K2 {P:List Q2} {p v q:Q2} (hT:bG P) (hF:¬ Flat P) (h1:(p,v)∈a8 P) (J:(v,q)∈a8 P) (mi:p≠v) (cT:v≠q) (h:an p v q=0):∃ t,0 < t∧t < 1∧v=atR p q t:=by
 obtain ⟨z,hz,nP⟩:=Vi hF mi;have a:=pX hT h1 hz;have b:=pX hT J hz;obtain ⟨s,Qc,pJ⟩:∃ s:Rat,q.1 - v.1=s*(v.1 - p.1)∧q.2 - v.2=s*(v.2 - p.2):=by
  rw [fC] at h;by_cases hx:v.1 - p.1=0
  ·have hy:v.2 - p.2≠0:=fun hy=>mi (Prod.ext (by grind) (by grind))
   refine ⟨(q.2 - v.2) / (v.2 - p.2),?_,?_⟩
   ·rw [hx] at h ⊢;have:(v.2 - p.2)*(q.1 - p.1)=0:=by grind
    have:=(Rat.mul_eq_zero.1 this).resolve_left hy;grind
   ·rw [Rat.div_def]; grind
  ·refine ⟨(q.1 - v.1) / (v.1 - p.1),?_,?_⟩
   ·rw [Rat.div_def]; grind
   ·rw [Rat.div_def];have:(v.1 - p.1)*(q.2 - v.2)=(v.1 - p.1)*((q.1 - v.1)*(v.1 - p.1)⁻¹*(v.2 - p.2)):=by grind
    have h0:(v.1 - p.1)*((q.2 - v.2) - ((q.1 - v.1)*(v.1 - p.1)⁻¹*(v.2 - p.2)))=0:=by grind
    have:=(Rat.mul_eq_zero.1 h0).resolve_left hx;grind
 have e:an v q z=s*an p v z:=by
  rw [fC,fC,Qc,pJ]; grind
 have hs:0 < s:=by
  by_cases h0:s=0
  ·subst h0;exact absurd (Prod.ext (by grind) (by grind)) cT
  ·by_cases h1:0 < s
   ·exact h1
   ·have:=Rat.mul_pos (show 0 < -s by grind) (show 0 < an p v z by grind)
    grind
 have aH:1+s≠0:=by grind
 have hi:(1+s)⁻¹*(1+s)=1:=by grind
 have gz:0 < (1+s)⁻¹:=by
  by_cases h1:0 < (1+s)⁻¹
  ·exact h1
  ·have:=Rat.mul_nonneg (show 0≤-(1+s)⁻¹ by grind) (show 0≤1+s by grind)
   grind
 refine ⟨(1+s)⁻¹,gz,?_,?_⟩
 ·have:=Rat.mul_pos gz hs;grind
 ·unfold atR;refine Prod.ext ?_ ?_
  ·have:q.1 - p.1=(1+s)*(v.1 - p.1):=by grind
   show v.1=p.1+(q.1 - p.1)*(1+s)⁻¹
   rw [this]; grind
  ·have:q.2 - p.2=(1+s)*(v.2 - p.2):=by grind
   show v.2=p.2+(q.2 - p.2)*(1+s)⁻¹
   rw [this]; grind
theorem Vj {α:Type} [DecidableEq α]:∀ {l:List α},(∀ A h B C,l≠A++h::B++h::C)→l.Nodup:=by
 intro l
 induction l with
 | nil=>exact fun _=>.nil
 | cons a l ih =>
  intro h;rw [List.nodup_cons];refine ⟨fun hm=>?_,ih fun A x B C e=>h (a::A) x B C (by rw [e]; rfl)⟩
  obtain ⟨B,C,e⟩:=List.append_of_mem hm;exact h [] a B C (by rw [e]; rfl)
theorem Flat.vD {A B:List Q2} (h:Flat (A++B)):Flat (B++A):=h.mono fun v hv=>by
 rcases List.mem_append.1 hv with h | h
 ·exact List.mem_append_right _ h
 ·exact List.mem_append_left _ h
theorem K3 {P:List Q2} (hT:bG P) (hF:¬ Flat P) (aH:∀ e∈a8 P,e.1≠e.2):P.Nodup:=by
 refine Vj fun A h B C e=>?_
 subst e;have th:bG (h::B++h::(C++A)):=by
  have:=bG.vD (A:=A) (B:=h::B++h::C) (by simpa using hT)
  simpa using this
 have Dx:¬ Flat (h::B++h::(C++A)):=fun J=>hF (by
  have:=Flat.vD (A:=h::B++h::C) (B:=A) (by simpa using J)
  simpa using this)
 have zv:∀ e∈a8 (h::B++h::(C++A)),e.1≠e.2:=fun e he=>aH e (by
  have:=Bf (A:=h::B++h::C) (B:=A) (e:=e) (by simpa using he)
  simpa using this)
 generalize C++A=D at th Dx zv;cases B with
 | nil=>exact zv (h,h) (by rw [show h::([]:List Q2)++h::D=h::h::D from rfl,wb]; exact List.mem_cons_self ..) rfl
 | cons q B =>
  cases D with
  | nil =>
   refine zv (h,h) ?_ rfl;show (h,h)∈cl ((h::q::B++[h])++[h])
   rw [List.append_assoc];show (h,h)∈cl (h::q::B++h::[h])
   rw [wa];exact List.mem_append_right _ (List.mem_cons_self ..)
  | cons r D =>
   have e1:(h,q)∈a8 (h::(q::B)++h::r::D):=by
    show (h,q)∈cl (h::q::(B++h::r::D++[h]))
    exact List.mem_cons_self ..
   have e2:(h,r)∈a8 (h::(q::B)++h::r::D):=by
    show (h,r)∈cl ((h::(q::B)++h::r::D)++[h])
    rw [List.append_assoc];show (h,r)∈cl (h::(q::B)++h::(r::D++[h]))
    rw [wa];exact List.mem_append_right _ (List.mem_cons_self ..)
   have hq:h≠q:=zv _ e1;have hr:h≠r:=zv _ e2;have hD:∀ z∈r::D,an h q z=0:=fun z hz=>by
    have a:=pX th e1 (z:=z) (List.mem_append_right _ (List.mem_cons_of_mem _ hz));have hl:bG (q::B++h::r::D):=th.2;have:=bG.mid (A:=B) (B:=r::D) (x:=z) (v:=q) (w:=h);have hb:=bG.back (A:=B) (B:=r::D) (x:=z) (v:=q) (w:=h) hl (by
     show z∈h::(r::D)++[q]
     exact List.mem_append_left _ (List.mem_cons_of_mem _ hz))
    have:an q h z=-an h q z:=by rw [fC,fC]; grind
    grind
   have hB:∀ z∈q::B,an h r z=0:=fun z hz=>by
    have a:=pX th e2 (z:=z) (List.mem_append_left _ (List.mem_cons_of_mem _ hz));have hl:List.Pairwise (fun b c=>0≤an h b c) (q::B++h::r::D):=th.1
    rw [List.pairwise_append] at hl;have:=hl.2.2 z hz r (List.mem_cons_of_mem _ (List.mem_cons_self ..));rw [yr] at this;grind
   refine Dx ⟨pO h q,Gg hq,fun v hv=>?_⟩
   rw [oV];have I0:=hB q (List.mem_cons_self ..);rcases List.mem_append.1 hv with hv | hv
   ·rcases List.mem_cons.1 hv with rfl | hv
    ·exact r8 _ _
    ·have IL:=hB v hv;rw [fC] at IL I0 ⊢;have HO:r.1 - h.1≠0∨r.2 - h.2≠0:=by
      by_cases x:r.1 - h.1=0
      ·right; exact fun y=>hr (Prod.ext (by grind) (by grind))
      ·exact .inl x
     rcases HO with x | x
     ·have:(r.1 - h.1)*((q.1 - h.1)*(v.2 - h.2) - (q.2 - h.2)*(v.1 - h.1))=0:=by grind
      exact (Rat.mul_eq_zero.1 this).resolve_left x
     ·have:(r.2 - h.2)*((q.1 - h.1)*(v.2 - h.2) - (q.2 - h.2)*(v.1 - h.1))=0:=by grind
      exact (Rat.mul_eq_zero.1 this).resolve_left x
   ·rcases List.mem_cons.1 hv with rfl | hv
    ·exact r8 _ _
    ·exact hD v hv
theorem Q1 {α:Type} {R:α→α→Prop} (has:∀ a b,R a b→¬ R b a):∀ {l m:List α},l.Pairwise R→m.Pairwise R→(∀ x,x∈l↔x∈m)→l=m:=by
 intro l
 induction l with
 | nil =>
  intro m _ _ h;cases m with
  | nil=>rfl
  | cons b m=>have:=(h b).2 (List.mem_cons_self ..); cases this
 | cons a l ih =>
  intro m hl hm h;cases m with
  | nil=>have:=(h a).1 (List.mem_cons_self ..); cases this
  | cons b m =>
   rw [List.pairwise_cons] at hl hm;have Qd:∀ x,¬ R x x:=fun x hx=>has x x hx hx
   have ef:a=b:=by
    rcases List.mem_cons.1 ((h a).1 (List.mem_cons_self ..)) with e | e
    ·exact e
    ·rcases List.mem_cons.1 ((h b).2 (List.mem_cons_self ..)) with e2 | e2
     ·exact e2.symm
     ·exact absurd (hl.1 b e2) (has _ _ (hm.1 a e))
   subst ef;rw [ih hl.2 hm.2 fun x=>⟨fun hx=>?_,fun hx=>?_⟩]
   ·rcases List.mem_cons.1 ((h x).1 (List.mem_cons_of_mem _ hx)) with e | e
    ·subst e; exact absurd (hl.1 _ hx) (Qd _)
    ·exact e
   ·rcases List.mem_cons.1 ((h x).2 (List.mem_cons_of_mem _ hx)) with e | e
    ·subst e; exact absurd (hm.1 _ hx) (Qd _)
    ·exact e
theorem AE {P:List Q2} {a b c:Q2} (ha:gg P a) (hb:gg P b) (hc:gg P c) (ef:a≠b) (Ah:a≠c) (pH:b≠c):an a b c≠0:=fun h=>by
 obtain ⟨s,Qc,pJ⟩:∃ s:Rat,c.1 - a.1=s*(b.1 - a.1)∧c.2 - a.2=s*(b.2 - a.2):=by
  rw [fC] at h;by_cases hx:b.1 - a.1=0
  ·have hy:b.2 - a.2≠0:=fun hy=>ef (Prod.ext (by grind) (by grind))
   refine ⟨(c.2 - a.2) / (b.2 - a.2),?_,?_⟩
   ·rw [hx] at h ⊢;have:(b.2 - a.2)*(c.1 - a.1)=0:=by grind
    have:=(Rat.mul_eq_zero.1 this).resolve_left hy;grind
   ·rw [Rat.div_def]; grind
  ·refine ⟨(c.1 - a.1) / (b.1 - a.1),?_,?_⟩
   ·rw [Rat.div_def]; grind
   ·rw [Rat.div_def];have h0:(b.1 - a.1)*((c.2 - a.2) - ((c.1 - a.1)*(b.1 - a.1)⁻¹*(b.2 - a.2)))=0:=by grind
    have:=(Rat.mul_eq_zero.1 h0).resolve_left hx;grind
 have h0:s≠0:=fun e=>by subst e; exact Ah (Prod.ext (by grind) (by grind))
 have h1:s≠1:=fun e=>by subst e; exact pH (Prod.ext (by grind) (by grind))
 have inv:∀ x:Rat,0 < x→0 < x⁻¹∧x⁻¹*x=1:=fun x hx=>by
  have e:x⁻¹*x=1:=by grind
  refine ⟨?_,e⟩;by_cases h1:0 < x⁻¹
  ·exact h1
  ·have:=Rat.mul_nonneg (show 0≤-x⁻¹ by grind) (show 0≤x by grind)
   grind
 rcases Qb s with h | h | h
 ·-- a lies between c and b
  obtain ⟨i0,i1⟩:=inv (1 - s) (by grind)
  refine ha.AU hc.1 hb.1 (Ne.symm Ah) (Ne.symm ef) (t:=(-s)*(1 - s)⁻¹) (Rat.mul_pos (by grind) i0) ?_ ?_
  ·grind
  ·unfold atR; exact Prod.ext (by grind) (by grind)
 ·exact h0 h
 ·by_cases J:s < 1
  ·-- c lies between a and b
   refine hc.AU ha.1 hb.1 Ah pH h J ?_;unfold atR; exact Prod.ext (by grind) (by grind)
  ·obtain ⟨i0,i1⟩:=inv s h;refine hb.AU ha.1 hc.1 ef (Ne.symm pH) (t:=s⁻¹) i0 ?_ ?_
   ·have:=Rat.mul_pos i0 (show 0 < s - 1 by grind); grind
   ·unfold atR; exact Prod.ext (by grind) (by grind)
theorem RO {P:List Q2} {h:Q2} {A B:List Q2} (hA:bG (h::A)) (hB:bG (h::B)) (nA:(h::A).Nodup) (nB:(h::B).Nodup) (eA:∀ v,v∈h::A↔gg P v) (eB:∀ v,v∈h::B↔gg P v):A=B:=by
 have key:∀ {A:List Q2},bG (h::A)→(h::A).Nodup→(∀ v,v∈h::A↔gg P v)→A.Pairwise (fun a b=>0 < an h a b):=by
  intro A hA nA eA;rw [List.nodup_cons] at nA;have h1:List.Pairwise (fun a b=>0≤an h a b) A:=hA.1
  have J:List.Pairwise (fun a b=>a≠b) A:=nA.2
  have h3:=List.Pairwise.and_mem.1 (h1.and J);refine h3.imp fun {a b} ⟨ha,hb,h4,h5⟩=>?_
  have:=AE ((eA h).1 (List.mem_cons_self ..)) ((eA a).1 (List.mem_cons_of_mem _ ha)) ((eA b).1 (List.mem_cons_of_mem _ hb)) (fun e=>nA.1 (e ▸ ha)) (fun e=>nA.1 (e ▸ hb)) h5
  grind
 rw [List.nodup_cons] at nA nB;refine Q1 (R:=fun a b=>0 < an h a b) (fun a b x y=>by rw [yr] at y; grind) (key hA (List.nodup_cons.2 nA) eA) (key hB (List.nodup_cons.2 nB) eB) fun x=>?_
 constructor
 ·intro hx;have:=(eB x).2 ((eA x).1 (List.mem_cons_of_mem _ hx));rcases List.mem_cons.1 this with e | e
  ·subst e; exact absurd hx nA.1
  ·exact e
 ·intro hx;have:=(eA x).2 ((eB x).1 (List.mem_cons_of_mem _ hx));rcases List.mem_cons.1 this with e | e
  ·subst e; exact absurd hx nB.1
  ·exact e
open Go
def aC (l:List Q2) (k:Nat):Q2:=l.getD k (0,0)
theorem hJ {l:List Q2} {k:Nat} (h:k < l.length):l[k]?=some (aC l k):=by
 unfold aC; rw [List.getD_eq_getElem?_getD,List.getElem?_eq_getElem h]; rfl
theorem sh {l:List Q2} {k:Nat} {p:Q2} (h:l[k]?=some p):aC l k=p:=by
 unfold aC; rw [List.getD_eq_getElem?_getD,h]; rfl
theorem fa {l:List Q2} {k:Nat} (h:k < l.length):aC l k∈l:=List.mem_of_getElem? (hJ h)
theorem wU {l:List Q2} {v:Q2} (h:v∈l):∃ k,k < l.length∧aC l k=v:=by
 obtain ⟨k,hk,rfl⟩:=List.getElem_of_mem h;exact ⟨k,hk,sh (List.getElem?_eq_getElem hk)⟩
def bg (n k:Nat):Nat:=(k+1) % n
def eJ (n k:Nat):Nat:=(k+n - 1) % n
theorem cV {n k:Nat} (h:k < n):bg n k < n:=Nat.mod_lt _ (by omega)
theorem kt {n k:Nat} (h:k < n):eJ n k < n:=Nat.mod_lt _ (by omega)
theorem Gh {n k:Nat} (h:k < n):bg n (eJ n k)=k:=by
 unfold bg eJ;rw [Nat.mod_add_mod,show k+n - 1+1=k+n by omega,Nat.add_mod_right,Nat.mod_eq_of_lt h]
theorem Gi {n k:Nat} (h:k < n):eJ n (bg n k)=k:=by
 unfold bg eJ;rcases Nat.lt_or_eq_of_le (show k+1≤n from h) with h1 | h1
 ·rw [Nat.mod_eq_of_lt h1,show k+1+n - 1=k+n by omega,Nat.add_mod_right,Nat.mod_eq_of_lt h]
 ·rw [h1,Nat.mod_self,show 0+n - 1=k by omega,Nat.mod_eq_of_lt h]
theorem xf {n k:Nat} (h:k < n) (hn:1 < n):bg n k≠k:=fun e=>by
 unfold bg at e;rcases Nat.lt_or_eq_of_le (show k+1≤n from h) with h1 | h1
 ·rw [Nat.mod_eq_of_lt h1] at e; omega
 ·rw [h1,Nat.mod_self] at e; omega
theorem NW {n k:Nat} (h:k < n) (hn:1 < n):eJ n k≠k:=fun e=>by
 have h1:=Gh h;rw [e] at h1;exact xf h hn h1
theorem m6 {l:List Q2} {k:Nat} (h:k < l.length):(aC l k,aC l (bg l.length k))∈a8 l:=List.mem_of_getElem? (rQ (hJ h) (hJ (cV h)))
theorem rU {l:List Q2} {k:Nat} (h:k < l.length):(aC l (eJ l.length k),aC l k)∈a8 l:=by
 have:=m6 (l:=l) (kt h)
 rwa [Gh h] at this
theorem FH {l:List Q2} {e:Q2 × Q2} (h:e∈a8 l):∃ k,k < l.length∧e=(aC l k,aC l (bg l.length k)):=by
 obtain ⟨i,hi,rfl⟩:=List.getElem_of_mem h;have aP:i < l.length:=by rwa [mX] at hi
 refine ⟨i,aP,?_⟩;have:=rQ (hJ aP) (hJ (cV aP));rw [List.getElem?_eq_getElem hi] at this;exact Option.some.inj this
def nd (l:List Q2) (k:Nat):Prop:=1 < l.length∧(aC l k=aC l (bg l.length k)∨2 < l.length∧an (aC l (eJ l.length k)) (aC l k) (aC l (bg l.length k))=0)
instance (l:List Q2) (k:Nat):Decidable (nd l k):=inferInstanceAs (Decidable (_∧_))
def lK (l:List Q2):Option Nat:=(List.range l.length).find? fun k=>decide (nd l k)
def GN:Nat→List Q2→List Q2
 | 0,l=>l
 | n+1,l=>match lK l with | none=>l | some k=>GN n (l.eraseIdx k)
def fE (l:List Q2):List Q2:=GN l.length l
theorem Rm {l:List Q2} (h:∀ k,k < l.length→¬ nd l k):lK l=none:=by
 unfold lK;rw [List.find?_eq_none];intro k hk
 simpa using h k (List.mem_range.1 hk)
theorem Q5 {l:List Q2} (h:lK l=none):∀ k,k < l.length→¬ nd l k:=fun k hk=>by
 unfold lK at h;rw [List.find?_eq_none] at h
 simpa using h k (List.mem_range.2 hk)
theorem DW {l:List Q2} {k:Nat} (h:lK l=some k):k < l.length∧nd l k:=by
 unfold lK at h;rw [List.find?_range_eq_some] at h;exact ⟨List.mem_range.1 h.2.1,by simpa using h.1⟩
theorem Ed {l:List Q2} (h:lK l=none):fE l=l:=by
 unfold fE;cases l with
 | nil=>rfl
 | cons a l=>show (match lK (a::l) with | none=>_ | some k=>_)=_; rw [h]
theorem Ee {l:List Q2} {k:Nat} (h:lK l=some k):fE l=fE (l.eraseIdx k):=by
 have hk:=(DW h).1;unfold fE;rw [List.length_eraseIdx_of_lt hk];obtain ⟨n,hn⟩:∃ n,l.length=n+1:=⟨l.length - 1,by omega⟩
 rw [hn];show (match lK l with | none=>l | some k=>GN n (l.eraseIdx k))=_
 rw [h]; rfl
theorem E9 {C:List Q2→Prop} (hs:∀ l k,lK l=some k→C (l.eraseIdx k)→C l) (h0:∀ l,lK l=none→C l):∀ (n:Nat) (l:List Q2),l.length=n→C l:=by
 intro n
 induction n with
 | zero=>intro l hl; exact h0 l (Rm fun k hk=>by omega)
 | succ n ih =>
  intro l hl;cases e:lK l with
  | none=>exact h0 l e
  | some k=>exact hs l k e (ih _ (by rw [List.length_eraseIdx_of_lt (DW e).1]; omega))
theorem Fa (l:List Q2):(fE l).Sublist l :=
 E9 (C:=fun l=>(fE l).Sublist l) (fun l k h hc=>by rw [Ee h]; exact hc.trans (List.eraseIdx_sublist ..)) (fun l h=>by rw [Ed h]; exact List.Sublist.refl _) _ l rfl
theorem Mv (l:List Q2):∀ k,k < (fE l).length→¬ nd (fE l) k :=
 E9 (C:=fun l=>∀ k,k < (fE l).length→¬ nd (fE l) k) (fun l k h hc=>by rw [Ee h]; exact hc) (fun l h=>by rw [Ed h]; exact Q5 h) _ l rfl
theorem mem_erase {l:List Q2} {k j:Nat} (hj:j < l.length) (h:j≠k):aC l j∈l.eraseIdx k:=by
 rw [List.mem_eraseIdx_iff_getElem?];exact ⟨j,h,hJ hj⟩
theorem SH {l:List Q2} {k:Nat} {v:Q2} (h:v∈l):v∈l.eraseIdx k∨(k < l.length∧v=aC l k):=by
 obtain ⟨j,hj,rfl⟩:=wU h;by_cases e:j=k
 ·subst e; exact .inr ⟨hj,rfl⟩
 ·exact .inl (mem_erase hj e)
theorem FI {f:Q3} {a b:Q2} {t:Rat} (ha:bd f a=0) (hb:bd f b=0):bd f (atR a b t)=0:=by rw [Bu,ha,hb]; grind
theorem SJ {l:List Q2} {k:Nat} (hT:bG l) (hF:¬ Flat l) (hk:k < l.length) (h:nd l k):iF (l.eraseIdx k) l∧¬ Flat (l.eraseIdx k):=by
 obtain ⟨h1,J⟩:=h;have key:∀ (P:Q2→Prop),(∀ v∈l.eraseIdx k,P v)→(∀ a b t,P a→P b→0 < t→t < 1→P (atR a b t))→∀ v∈l,P v:=by
  intro P hP hm v hv;rcases SH (k:=k) hv with h | ⟨_,rfl⟩
  ·exact hP v h
  ·by_cases e1:aC l k=aC l (bg l.length k)
   ·rw [e1]; exact hP _ (mem_erase (cV hk) (xf hk h1))
   ·by_cases e2:aC l (eJ l.length k)=aC l k
    ·rw [← e2]; exact hP _ (mem_erase (kt hk) (NW hk h1))
    ·rcases J with J | ⟨J,h3⟩
     ·exact absurd J e1
     ·obtain ⟨t,t0,t1,ht⟩:=K2 hT hF (rU hk) (m6 hk) e2 e1 h3;rw [ht];exact hm _ _ _ (hP _ (mem_erase (kt hk) (NW hk h1))) (hP _ (mem_erase (cV hk) (xf hk h1))) t0 t1
 refine ⟨fun p=>⟨fun hp=>hp.mono fun v hv=>(List.eraseIdx_sublist ..).subset hv,fun hp=>hp.trans ?_⟩,fun ⟨f,hf,hz⟩=>hF ⟨f,hf,?_⟩⟩
 ·exact key _ (fun v hv=>.o6 hv) fun a b t ha hb t0 t1=>ha.at hb (by grind) (by grind)
 ·exact key _ hz fun a b t ha hb _ _=>FI ha hb
theorem EC {l:List Q2} (hT:bG l) (hF:¬ Flat l):iF (fE l) l∧¬ Flat (fE l) :=
 E9 (C:=fun l=>bG l→¬ Flat l→iF (fE l) l∧¬ Flat (fE l)) (fun l k h hc hT hF=>by
  rw [Ee h];have J:=DW h;obtain ⟨a,b⟩:=SJ hT hF J.1 J.2;obtain ⟨c,d⟩:=hc (hT.sublist (List.eraseIdx_sublist ..)) b;exact ⟨c.trans a,d⟩) (fun l h hT hF=>by rw [Ed h]; exact ⟨.rfl',hF⟩) _ l rfl hT hF
theorem BP {P:List Q2} (h:Flat P) {a b c:Q2} (ha:a∈P) (hb:b∈P) (hc:c∈P):an a b c=0:=by
 obtain ⟨f,hf,hz⟩:=h;have x:=hz a ha;have y:=hz b hb;have z:=hz c hc;rw [kV] at x y z;rw [fC];by_cases h0:f.1=0
 ·have h1:f.2.1≠0:=fun e=>hf ⟨h0,e⟩
  have e:f.2.1*((b.1 - a.1)*(c.2 - a.2) - (b.2 - a.2)*(c.1 - a.1))=0:=by grind
  exact (Rat.mul_eq_zero.1 e).resolve_left h1
 ·have e:f.1*((b.1 - a.1)*(c.2 - a.2) - (b.2 - a.2)*(c.1 - a.1))=0:=by grind
  exact (Rat.mul_eq_zero.1 e).resolve_left h0
theorem D2 (a b:Q2):∃ f:Q3,mP f∧bd f a=0∧bd f b=0:=by
 by_cases h:a=b
 ·subst h;exact ⟨(1,0,a.1),fun h=>absurd (show (1:Rat)=0 from h.1) (by decide),by rw [kV]; grind,by rw [kV]; grind⟩
 ·exact ⟨pO a b,Gg h,by rw [oV,r8],by rw [oV,qf]⟩
theorem SL {P:List Q2} (h:P.length≤2):Flat P:=by
 match P,h with
 | [],_=>exact ⟨(1,0,0),fun h=>absurd h.1 (by decide),fun v hv=>by cases hv⟩
 | [a],_ =>
  obtain ⟨f,hf,h1,_⟩:=D2 a a;exact ⟨f,hf,fun v hv=>by simp at hv; rw [hv]; exact h1⟩
 | [a,b],_ =>
  obtain ⟨f,hf,h1,J⟩:=D2 a b;exact ⟨f,hf,fun v hv=>by simp at hv; rcases hv with rfl | rfl <;> assumption⟩
 | _::_::_::_,h=>simp at h
theorem SM {l:List Q2} (hF:Flat l):(fE l).length≤2:=by
 refine Decidable.byContradiction fun h=>?_
 have h0:=Mv l 0 (by omega)
 refine h0 ⟨by omega,.inr ⟨by omega,?_⟩⟩
 have Dx:Flat (fE l):=hF.mono fun v hv=>(Fa l).subset hv
 exact BP Dx (fa (kt (by omega))) (fa (by omega)) (fa (cV (by omega)))
structure Ring (P:List Q2):Prop where
 gx:bG P
 three:3≤P.length
 xg:∀ k,k < P.length→0 < an (aC P (eJ P.length k)) (aC P k) (aC P (bg P.length k))
theorem Ring.ne {P:List Q2} (h:Ring P):∀ e∈a8 P,e.1≠e.2:=fun e he=>by
 obtain ⟨k,hk,rfl⟩:=FH he;intro e2;have:=h.xg k hk;simp only at e2;rw [e2,qf] at this;grind
theorem Ring.ext {P:List Q2} (h:Ring P) {v:Q2}:v∈P↔gg P v:=by
 refine ⟨fun hv=>?_,gg.mem⟩
 obtain ⟨k,hk,rfl⟩:=wU hv;have:=h.xg k hk;exact K1 h.gx (rU hk) (m6 hk) (by grind)
theorem Ring.abE {P:List Q2} (h:Ring P):¬ Flat P:=fun hF=>by
 have hk:0 < P.length:=by have:=h.three; omega
 have:=h.xg 0 hk;rw [BP hF (fa (kt hk)) (fa hk) (fa (cV hk))] at this;grind
theorem Ring.nodup {P:List Q2} (h:Ring P):P.Nodup:=K3 h.gx h.abE h.ne
theorem Wp {P:List Q2} (hT:bG P) (hF:¬ Flat P) (hn:∀ k,k < P.length→¬ nd P k):Ring P:=by
 have h3:3≤P.length:=Decidable.byContradiction fun h=>hF (SL (by omega))
 refine ⟨hT,h3,fun k hk=>?_⟩
 have a:=pX hT (rU hk) (fa (cV hk));have b:an (aC P (eJ P.length k)) (aC P k) (aC P (bg P.length k))≠0:=fun e=>hn k hk ⟨by omega,.inr ⟨by omega,e⟩⟩
 grind
theorem K4 {l:List Q2} (hT:bG l) (hF:¬ Flat l):Ring (fE l):=Wp (hT.sublist (Fa l)) (EC hT hF).2 (Mv l)
def nU (l:List Q2):Nat→Nat
 | 0=>0
 | i+1=>if fF (aC l i) (aC l (nU l i)) < 0 then i else nU l i
def qA (l:List Q2):Nat:=nU l l.length
def eM (l:List Q2):List Q2:=l.drop (qA l)++l.take (qA l)
def iz (a b:Q2):Prop:=a.1 < b.1∨a.1=b.1∧a.2≤b.2
theorem ud {a b:Q2}:iz a b↔¬ fF b a < 0:=by
 unfold iz fF;rcases A3 (b.1 - a.1) with ⟨h1,J⟩ | ⟨h1,J⟩ | ⟨h1,J⟩
 ·rw [FF b.1 a.1,J];constructor
  ·rintro (h | ⟨h,_⟩) <;> grind
  ·intro h; exact absurd (by rw [if_pos (by decide)]; decide) h
 ·rw [FF b.1 a.1,J,if_neg (by decide),fA]
  constructor
  ·rintro (h | ⟨h,h3⟩) <;> grind
  ·intro h; right; exact ⟨by grind,by grind⟩
 ·rw [FF b.1 a.1,J];constructor
  ·intro _; rw [if_pos (by decide)]; decide
  ·intro _; left; grind
theorem T2 {a b c:Q2} (h:iz a b) (g:iz b c):iz a c:=by unfold iz at *; grind
theorem Mw {a b:Q2} (h:iz a b) (g:iz b a):a=b:=by
 unfold iz at *;exact Prod.ext (by grind) (by grind)
theorem Vk (a:Q2):iz a a:=by unfold iz; right; exact ⟨rfl,by grind⟩
theorem T3 {a b:Q2} (h:¬ iz a b):iz b a:=by unfold iz at *; grind
theorem J9 (l:List Q2):∀ i,i≤l.length→(0 < l.length→nU l i < l.length)∧(∀ j,j < i→iz (aC l (nU l i)) (aC l j)):=by
 intro i
 induction i with
 | zero=>intro _; exact ⟨fun h=>h,fun j hj=>absurd hj (Nat.not_lt_zero _)⟩
 | succ i ih =>
  intro hi;obtain ⟨h1,J⟩:=ih (by omega)
  unfold nU
  split
  ·rename_i hc;have hle:iz (aC l i) (aC l (nU l i)):=T3 fun h=>(ud.1 h) hc
   refine ⟨fun _=>by omega,fun j hj=>?_⟩
   rcases Nat.lt_or_eq_of_le (Nat.le_of_lt_succ hj) with h | h
   ·exact T2 hle (J j h)
   ·subst h; exact Vk _
  ·rename_i hc;refine ⟨h1,fun j hj=>?_⟩
   rcases Nat.lt_or_eq_of_le (Nat.le_of_lt_succ hj) with h | h
   ·exact J j h
   ·subst h; exact ud.2 hc
theorem tW {l:List Q2} {v:Q2}:v∈eM l↔v∈l:=by
 unfold eM;rw [List.mem_append];constructor
 ·rintro (h | h)
  ·exact List.mem_of_mem_drop h
  ·exact List.mem_of_mem_take h
 ·intro h;rw [← List.take_append_drop (qA l) l,List.mem_append] at h;exact h.symm
theorem AV (l:List Q2):(eM l).length=l.length:=by
 unfold eM;rw [List.length_append,List.length_drop,List.length_take]; omega
theorem Fb {l:List Q2} (h:bG l):bG (eM l):=bG.vD (by rw [List.take_append_drop]; exact h)
theorem ED {l:List Q2} (h:l.Nodup):(eM l).Nodup:=by
 have hp:(eM l).Perm l:=by
  unfold eM;refine List.perm_append_comm.trans ?_;rw [List.take_append_drop]
 exact hp.nodup_iff.2 h
theorem Fc {l:List Q2} (h:l≠[]):∃ a A,eM l=a::A∧∀ v∈l,iz a v:=by
 have hl:0 < l.length:=List.length_pos_iff.2 h;have hs:=J9 l l.length (Nat.le_refl _);refine ⟨aC l (qA l),l.drop (qA l+1)++l.take (qA l),?_,fun v hv=>?_⟩
 ·unfold eM;have ak:qA l < l.length:=hs.1 hl;rw [List.drop_eq_getElem_cons ak];have:l[qA l]'ak=aC l (qA l):=by
   have:=hJ ak;rw [List.getElem?_eq_getElem ak] at this;exact Option.some.inj this
  rw [List.cons_append,this]
 ·obtain ⟨j,hj,rfl⟩:=wU hv;exact hs.2 j hj
theorem Rn {P A B:List Q2} (hA:bG A) (hB:bG B) (nA:A.Nodup) (nB:B.Nodup) (eA:∀ v,v∈A↔gg P v) (eB:∀ v,v∈B↔gg P v):eM A=eM B:=by
 by_cases xT:A=[]
 ·subst xT;have:B=[]:=by
   cases B with
   | nil=>rfl
   | cons b B=>have:=(eA b).2 ((eB b).1 (List.mem_cons_self ..)); cases this
  rw [this]
 ·have hB0:B≠[]:=fun e=>by
   subst e;cases A with
   | nil=>exact xT rfl
   | cons b B=>have:=(eB b).2 ((eA b).1 (List.mem_cons_self ..)); cases this
  obtain ⟨a,A',ha,la⟩:=Fc xT;obtain ⟨b,B',hb,lb⟩:=Fc hB0;have ha':a∈A:=tW.1 (by rw [ha]; exact List.mem_cons_self ..)
  have bF:b∈B:=tW.1 (by rw [hb]; exact List.mem_cons_self ..)
  have ef:a=b:=Mw (la b ((eA b).2 ((eB b).1 bF))) (lb a ((eB a).2 ((eA a).1 ha')));subst ef;rw [ha,hb]
  congr 1
  refine RO (P:=P) (h:=a) (by rw [← ha]; exact Fb hA) (by rw [← hb]; exact Fb hB) (by rw [← ha]; exact ED nA) (by rw [← hb]; exact ED nB) (fun v=>?_) (fun v=>?_)
  ·rw [← ha,tW]; exact eA v
  ·rw [← hb,tW]; exact eB v
theorem gg.iff {P Q:List Q2} (h:iF P Q) (v:Q2):gg P v↔gg Q v:=⟨fun x=>x.same h,fun x=>x.same h.symm⟩
open Go
theorem oR {a b:Q2}:fF a b=0↔a=b:=TY.trans ⟨fun h=>Prod.ext h.1 h.2,fun h=>by rw [h]; exact ⟨rfl,rfl⟩⟩
def nr (e:Q2 × Q2):List Q2:=if fF e.1 e.2≠0 then [e.1] else []
def gC (l:List Q2):List Q2:=(a8 l).flatMap nr
def n5 (l:List Q2) (i:Nat):List Q2:=if an (aC l (eJ l.length i)) (aC l i) (aC l (bg l.length i))≠0 then [aC l i] else []
def jO (l:List Q2):List Q2:=(List.range l.length).flatMap (n5 l)
def fL (l:List Q2):List Q2:=if (jO (gC l)).length < 3 then [] else eM (jO (gC l))
theorem Em {α β:Type} (g:α→β) (f:α→List β) (h:∀ a,(f a).Sublist [g a]):∀ l:List α,(l.flatMap f).Sublist (l.map g)
 | []=>.slnil
 | a::l=>by
  rw [List.flatMap_cons,List.map_cons];exact (h a).append (Em g f h l)
theorem T4 {α:Type} (l:List α):(a8 l).map Prod.fst=l:=by
 refine List.ext_getElem (by rw [List.length_map,mX]) fun i h1 J=>?_
 have h3:(i+1) % l.length < l.length:=Nat.mod_lt _ (by omega)
 have:=rQ (List.getElem?_eq_getElem J) (List.getElem?_eq_getElem h3);rw [List.getElem_map];rw [List.length_map] at h1;rw [List.getElem?_eq_getElem h1] at this;rw [Option.some.inj this]
theorem x5 (l:List Q2):(gC l).Sublist l:=by
 have:=Em Prod.fst nr (fun e=>by
  unfold nr
  split
  ·exact List.Sublist.refl _
  ·exact List.nil_sublist _) (a8 l)
 rw [T4] at this;exact this
theorem Wq (l:List Q2):(List.range l.length).map (aC l)=l:=by
 refine List.ext_getElem (by simp) fun i h1 J=>?_
 simp;exact sh (List.getElem?_eq_getElem J)
theorem AW (l:List Q2):(jO l).Sublist l:=by
 have:=Em (aC l) (n5 l) (fun e=>by
  unfold n5
  split
  ·exact List.Sublist.refl _
  ·exact List.nil_sublist _) (List.range l.length)
 rw [Wq] at this;exact this
theorem Wr (z:Q2):∀ (L:List Q2) (a:Q2),(a::L).getLast?=some z→((cl (a::L)).flatMap nr++[z]).head?=some a∧∀ e∈cl ((cl (a::L)).flatMap nr++[z]),e.1≠e.2:=by
 intro L
 induction L with
 | nil =>
  intro a h;simp at h;subst h;exact ⟨rfl,fun e he=>by cases he⟩
 | cons b L ih =>
  intro a h;obtain ⟨h1,J⟩:=ih b (by rw [List.getLast?_cons_cons] at h; exact h)
  rw [mn,List.flatMap_cons,List.append_assoc];obtain ⟨X,hX⟩:∃ X,X=(cl (b::L)).flatMap nr++[z]:=⟨_,rfl⟩;rw [← hX] at h1 J ⊢;unfold nr;by_cases ef:a=b
  ·rw [if_neg (by simp only [ne_eq]; exact fun h=>h (oR.2 ef))]
   rw [ef]; exact ⟨h1,J⟩
  ·rw [if_pos (fun h=>ef (oR.1 h))]
   refine ⟨rfl,?_⟩;cases X with
   | nil=>simp at h1
   | cons c X =>
    simp at h1;subst h1;intro e he;rw [show [(a,c).1]++c::X=a::c::X from rfl,mn] at he
    rcases List.mem_cons.1 he with rfl | he
    ·exact ef
    ·exact J e he
theorem Ks (l:List Q2):∀ e∈a8 (gC l),e.1≠e.2:=by
 cases l with
 | nil=>intro e he; cases he
 | cons h B =>
  obtain ⟨h1,J⟩:=Wr h (B++[h]) h (by rw [← List.cons_append,List.getLast?_append]; rfl)
  have hd:gC (h::B)=(cl (h::(B++[h]))).flatMap nr:=rfl;rw [← hd] at h1 J;cases hD:gC (h::B) with
  | nil=>intro e he; cases he
  | cons d D =>
   rw [hD] at h1 J;simp at h1;subst h1;intro e he;exact J e he
theorem Kt {α:Type} {l m:List α} {e:α × α} (h:e∈cl l):e∈cl (l++m):=by
 obtain ⟨A,B,rfl⟩:=J8 h;rw [List.append_assoc,List.cons_append,wa];exact List.mem_append_right _ (List.mem_cons_self ..)
theorem leave {v:Q2}:∀ (l:List Q2),(∃ w∈l,w≠v)→∃ y,(v,y)∈cl (v::l)∧v≠y:=by
 intro l
 induction l with
 | nil=>rintro ⟨w,hw,_⟩; cases hw
 | cons b l ih =>
  rintro ⟨w,hw,aH⟩
  by_cases hb:b=v
  ·subst hb;rcases List.mem_cons.1 hw with rfl | hw
   ·exact absurd rfl aH
   ·obtain ⟨y,h1,J⟩:=ih ⟨w,hw,aH⟩;exact ⟨y,List.mem_cons_of_mem _ h1,J⟩
  ·exact ⟨b,List.mem_cons_self ..,Ne.symm hb⟩
theorem Ka {l:List Q2} (hF:¬ Flat l) {v:Q2}:v∈gC l↔v∈l:=by
 refine ⟨fun h=>(x5 l).subset h,fun h=>?_⟩
 obtain ⟨w,hw,aH⟩:∃ w∈l,w≠v:=by
  refine Decidable.byContradiction fun hn=>hF ?_
  obtain ⟨f,hf,h1,_⟩:=D2 v v;exact ⟨f,hf,fun x hx=>by
   have:x=v:=Decidable.byContradiction fun h=>hn ⟨x,hx,h⟩
   rw [this]; exact h1⟩
 obtain ⟨A,B,rfl⟩:=List.append_of_mem h;obtain ⟨y,h1,J⟩:=leave (v:=v) (B++A) ⟨w,by
  rcases List.mem_append.1 hw with h | h
  ·exact List.mem_append_right _ h
  ·rcases List.mem_cons.1 h with h | h
   ·exact absurd h aH
   ·exact List.mem_append_left _ h,aH⟩
 have he:(v,y)∈a8 (A++v::B):=Bf (A:=v::B) (Kt (m:=[v]) h1);unfold gC;refine List.mem_flatMap.2 ⟨_,he,?_⟩;unfold nr;rw [if_pos (fun h=>J (oR.1 h))]
 exact List.mem_cons_self ..
theorem SN {D:List Q2} (hT:bG D) (hF:¬ Flat D) (aH:∀ e∈a8 D,e.1≠e.2) (v:Q2):v∈jO D↔gg D v:=by
 constructor
 ·intro h;unfold jO at h;obtain ⟨i,hi,hv⟩:=List.mem_flatMap.1 h;have hi:=List.mem_range.1 hi;unfold n5 at hv
  split at hv
  ·rename_i hc;simp at hv;rw [hv];exact K1 hT (rU hi) (m6 hi) hc
  ·cases hv
 ·intro h;obtain ⟨i,hi,rfl⟩:=wU h.mem;unfold jO;refine List.mem_flatMap.2 ⟨i,List.mem_range.2 hi,?_⟩;unfold n5;by_cases hc:an (aC D (eJ D.length i)) (aC D i) (aC D (bg D.length i))=0
  ·have n1:=aH _ (rU hi);have n2:=aH _ (m6 hi);obtain ⟨t,t0,t1,ht⟩:=K2 hT hF (rU hi) (m6 hi) n1 n2 hc;exact absurd ht (h.AU (.o6 (fa (kt hi))) (.o6 (fa (cV hi))) n1 (Ne.symm n2) t0 t1)
  ·rw [if_pos hc]; exact List.mem_cons_self ..
theorem Ws {P:List Q2} (hT:bG P) (hF:¬ Flat P):fL P=eM (fE P)∧3≤(fE P).length:=by
 have hr:=K4 hT hF;have I5:bG (gC P):=hT.sublist (x5 P);have Dy:¬ Flat (gC P):=fun h=>hF (h.mono fun v hv=>(Ka hF).2 hv)
 have hs:iF (gC P) P:=.o6 fun v=>Ka hF
 have mN:=K3 I5 Dy (Ks P);have eC:∀ v,v∈jO (gC P)↔gg P v:=fun v=>(SN I5 Dy (Ks P) v).trans (gg.iff hs v)
 have eR:∀ v,v∈fE P↔gg P v:=fun v=>hr.ext.trans (gg.iff (EC hT hF).1 v)
 have he:=Rn (I5.sublist (AW _)) hr.gx (mN.sublist (AW _)) hr.nodup eC eR;refine ⟨?_,hr.three⟩;unfold fL;have hl:=congrArg List.length he;rw [AV,AV] at hl;rw [if_neg (by have:=hr.three; omega),he]
theorem T5 {P:List Q2} (hF:Flat P):fL P=[]∧(fE P).length < 3:=by
 refine ⟨?_,by have:=SM hF; omega⟩
 have Dy:Flat (gC P):=hF.mono fun v hv=>(x5 P).subset hv
 have:jO (gC P)=[]:=by
  unfold jO;rw [List.flatMap_eq_nil_iff];intro i hi;have hi:=List.mem_range.1 hi;unfold n5;rw [if_neg (by simp only [ne_eq]; exact fun h=>h (BP Dy (fa (kt hi)) (fa hi) (fa (cV hi))))]
 unfold fL;rw [this,if_pos (by decide)]
abbrev Q4:=Q2 × Q2
def adk (b:Q4):List Q2:=[b.1,(b.2.1,b.1.2),b.2,(b.1.1,b.2.2)]
def okB (b:Q4):Prop:=b.1.1≤b.2.1∧b.1.2≤b.2.2
def Ph (b:Q4) (p:Q2):Prop:=b.1.1≤p.1∧p.1≤b.2.1∧b.1.2≤p.2∧p.2≤b.2.2
def Hj (b:Q4) (l:List Q3):List Q2:=l.foldl (fun P m=>fh m P) (adk b)
open Go
def mQ (S:Q3→Prop) (e:Q2 × Q2):Prop:=∃ m,S m∧mP m∧bd m e.1=0∧bd m e.2=0
theorem Zj {l m:Q3} {x:Q2} (hx:bd l x=0) (hy:bd m x=0) (h:qT l m≠0):x=HS l m:=by
 unfold qT at h;have e:qT l m=nX (rr l) (rr m):=rfl;rw [show nX (rr l) (rr m)=l.1*m.2.1 - l.2.1*m.1 from rfl] at h e
 rw [kV] at hx hy;unfold HS;rw [e];refine Prod.ext ?_ ?_
 ·show x.1=_
  rw [Rat.div_def]; grind
 ·show x.2=_
  rw [Rat.div_def]; grind
theorem Zk {l m:Q3} {a b:Q2} (hl:mP l) (ha:bd l a=0) (hb:bd l b=0) (h:bd m a≠bd m b):qT l m≠0:=fun e=>by
 rw [show qT l m=l.1*m.2.1 - l.2.1*m.1 from rfl] at e
 rw [kV] at ha hb;rw [kV,kV] at h;by_cases h0:l.1=0
 ·have h1:l.2.1≠0:=fun e=>hl ⟨h0,e⟩
  have:l.2.1*(m.1*a.1+m.2.1*a.2 - m.2.2 - (m.1*b.1+m.2.1*b.2 - m.2.2))=0:=by grind
  have:=(Rat.mul_eq_zero.1 this).resolve_left h1;exact h (by grind)
 ·have:l.1*(m.1*a.1+m.2.1*a.2 - m.2.2 - (m.1*b.1+m.2.1*b.2 - m.2.2))=0:=by grind
  have:=(Rat.mul_eq_zero.1 this).resolve_left h0;exact h (by grind)
def ny (m:Q3) (e:Q2 × Q2):List Q2:=nq m e.1++gK m e.1 e.2
theorem Ni (m:Q3) (l:List Q2):fh m l=(a8 l).flatMap (ny m):=rfl
theorem FJ {m:Q3} {a:Q2} (h:0≤bd m a):nq m a=[a]:=by unfold nq; rw [if_pos (oU.2 h)]
theorem FK {m:Q3} {a:Q2} (h:bd m a < 0):nq m a=[]:=by unfold nq; rw [if_neg (fun J=>by have:=oU.1 J; grind)]
theorem FL {m:Q3} {a b:Q2} (h:¬ ((0 < bd m a∧bd m b < 0)∨(bd m a < 0∧0 < bd m b))):gK m a b=[]:=by unfold gK; rw [if_neg (fun J=>h (Bg.1 J))]
theorem x7 {S:Q2 × Q2→Prop} {a:Q2} {X:List Q2} (h:∀ x,X.head?=some x→S (a,x)) (hX:∀ e∈cl X,S e):∀ e∈cl (a::X),S e:=by
 cases X with
 | nil=>intro e he; cases he
 | cons x X =>
  intro e he;rw [mn] at he;rcases List.mem_cons.1 he with rfl | he
  ·exact h x rfl
  ·exact hX e he
theorem Vl {S:Q3→Prop} {m:Q3} (hS:S m) (hm:mP m) (z:Q2):∀ (L:List Q2) (a:Q2),(a::L).getLast?=some z→(∀ e∈cl (a::L),mQ S e) →
  ∃ X,(cl (a::L)).flatMap (ny m)++nq m z=X∧(∀ e∈cl X,mQ S e)∧(0≤bd m a→X.head?=some a)∧(bd m a < 0→∀ x,X.head?=some x→bd m x=0)∧(bd m z < 0→∀ x,X.getLast?=some x→bd m x=0):=by
 intro L
 induction L with
 | nil =>
  intro a hz Dz;simp at hz;subst hz;by_cases ha:0≤bd m a
  ·refine ⟨[a],by rw [FJ ha]; rfl,(fun e he=>by cases he),fun _=>rfl,fun h=>absurd ha (by grind),fun h=>absurd ha (by grind)⟩
  ·exact ⟨[],by rw [FK (by grind)]; rfl,(fun e he=>by cases he),fun h=>absurd h ha,(fun h x hx=>by cases hx),(fun h x hx=>by cases hx)⟩
 | cons b L ih =>
  intro a hz Dz;rw [mn] at Dz;obtain ⟨X,hX,h1,J,h3,h4⟩:=ih b (by rw [List.getLast?_cons_cons] at hz; exact hz) fun e he=>Dz e (List.mem_cons_of_mem _ he)
  obtain ⟨k,hk,I6,ka,kb⟩:=Dz (a,b) (List.mem_cons_self ..);rw [mn,List.flatMap_cons,List.append_assoc,hX];show ∃ Y,(nq m a++gK m a b)++X=Y∧_
  have last:∀ Z:List Q2,X≠[]→∀ x,(Z++X).getLast?=some x→X.getLast?=some x:=fun Z aH x hx=>by
   rw [List.getLast?_append] at hx;cases e:X.getLast? with
   | none=>exact absurd (List.getLast?_eq_none_iff.1 e) aH
   | some y=>rw [e] at hx; exact hx
  by_cases ha:0≤bd m a
  ·rw [FJ ha];by_cases hb:0≤bd m b
   ·rw [FL (by grind),List.append_nil]
    have hh:=J hb;refine ⟨a::X,rfl,x7 (fun x hx=>?_) h1,fun _=>rfl,fun h=>absurd ha (by grind),fun h x hx=>h4 h x (last [a] (fun e=>by rw [e] at hh; cases hh) x hx)⟩
    rw [hh] at hx; cases hx;exact ⟨k,hk,I6,ka,kb⟩
   ·by_cases h0:bd m a=0
    ·rw [FL (by grind),List.append_nil]
     refine ⟨a::X,rfl,x7 (fun x hx=>⟨m,hS,hm,h0,h3 (by grind) x hx⟩) h1,fun _=>rfl,fun h=>absurd ha (by grind),fun h x hx=>?_⟩
     by_cases Ai:X=[]
     ·subst Ai; simp at hx; rw [← hx]; exact h0
     ·exact h4 h x (last [a] Ai x hx)
    ·have hc:=E7 (m:=m) (p:=a) (q:=b) (.inl ⟨by grind,by grind⟩)
     have hs:=x6 (x:=atR a b (jo m a b)) (by rw [hc]; simp)
     rw [hc];refine ⟨a::atR a b (jo m a b)::X,rfl,x7 (fun x hx=>?_) (x7 (fun x hx=>⟨m,hS,hm,hs.2.2.2.2,h3 (by grind) x hx⟩) h1),fun _=>rfl,fun h=>absurd ha (by grind),fun h x hx=>?_⟩
     ·simp at hx;rw [← hx];exact ⟨k,hk,I6,ka,FI ka kb⟩
     ·by_cases Ai:X=[]
      ·subst Ai; simp at hx; rw [← hx]; exact hs.2.2.2.2
      ·exact h4 h x (last [a,atR a b (jo m a b)] Ai x hx)
  ·rw [FK (by grind),List.nil_append]
   by_cases hb:0 < bd m b
   ·have hc:=E7 (m:=m) (p:=a) (q:=b) (.inr ⟨by grind,by grind⟩)
    have hs:=x6 (x:=atR a b (jo m a b)) (by rw [hc]; simp)
    have hh:=J (by grind)
    rw [hc];refine ⟨atR a b (jo m a b)::X,rfl,x7 (fun x hx=>?_) h1,fun h=>absurd h ha,fun _ x hx=>?_,fun h x hx=>h4 h x (last [atR a b (jo m a b)] (fun e=>by rw [e] at hh; cases hh) x hx)⟩
    ·rw [hh] at hx; cases hx;exact ⟨k,hk,I6,FI ka kb,kb⟩
    ·simp at hx; rw [← hx]; exact hs.2.2.2.2
   ·rw [FL (by grind),List.nil_append]
    refine ⟨X,rfl,h1,fun h=>absurd h ha,fun _ x hx=>?_,h4⟩
    by_cases jc:bd m b=0
    ·have:=J (by grind)
     rw [this] at hx; cases hx; exact jc
    ·exact h3 (by grind) x hx
theorem Zl {S:Q3→Prop} {m:Q3} {P:List Q2} (hS:S m) (hm:mP m) (h:∀ e∈a8 P,mQ S e):∀ e∈a8 (fh m P),mQ S e:=by
 cases P with
 | nil=>intro e he; cases he
 | cons p P =>
  obtain ⟨X,hX,h1,J,h3,h4⟩:=Vl hS hm p (P++[p]) p (by rw [← List.cons_append,List.getLast?_append]; rfl) h
  have hc:fh m (p::P)=(cl (p::(P++[p]))).flatMap (ny m):=rfl;rw [← hc] at hX;by_cases hp:0≤bd m p
  ·rw [FJ hp] at hX;have hh:=J hp;intro e he;cases hC:fh m (p::P) with
   | nil=>rw [hC] at he; cases he
   | cons c C =>
    rw [hC] at hX he;have:c=p:=by rw [← hX] at hh; simpa using hh
    rw [this] at hX he;rw [wb,hX] at he;exact h1 e he
  ·rw [FK (by grind),List.append_nil] at hX
   intro e he;cases hC:fh m (p::P) with
   | nil=>rw [hC] at he; cases he
   | cons c C =>
    rw [hC] at he hX;subst hX;rcases List.eq_nil_or_concat C with rfl | ⟨C,d,rfl⟩
    ·have oo:=h3 (by grind) c rfl
     rw [wb] at he;rcases List.mem_cons.1 he with rfl | he
     ·exact ⟨m,hS,hm,oo,oo⟩
     ·cases he
    ·have oo:=h3 (by grind) c rfl
     have fx:=h4 (by grind) d (by rw [List.concat_eq_append,← List.cons_append,List.getLast?_append]; rfl)
     rw [List.concat_eq_append] at he h1;rw [wb,show c::(C++[d])++[c]=(c::C)++d::[c] by simp,wa] at he
     rcases List.mem_append.1 he with he | he
     ·exact h1 e (by rw [← List.cons_append]; exact he)
     ·rcases List.mem_cons.1 he with rfl | he
      ·exact ⟨m,hS,hm,fx,oo⟩
      ·cases he
theorem qb0 {k:Nat} (h:1≤k):QB 0 k:=(yQ (n:=0) (by decide)).mono h
theorem qb1 {k:Nat} (h:1≤k):QB 1 k:=(yQ (n:=1) (by decide)).mono h
open Go
def bH (L:List Q2):List PV:=L.map cA
def bW (L:List Q2):Nat→List Value:=dq (bH L)
theorem K5 (L:List Q2):(bH L).length=L.length:=List.length_map ..
theorem Zm {L:List Q2} {k:Nat} (h:k < L.length):(bH L)[k]?=some (cA (aC L k)):=by
 unfold bH;rw [List.getElem?_map,hJ h]; rfl
theorem Vm {L:List Q2} {k:Nat} (h:k < L.length):bW L k=(cA (aC L k)).cells:=by
 unfold bW dq;rw [List.getD_eq_getElem?_getD,Zm h]; rfl
theorem ib {L:List Q2} {m k:Nat} (h:k < L.length) (hs:∀ v∈L,Q2.sz m v):∃ u:PV,u=cA (aC L k)∧bW L k=u.cells∧u.p=aC L k∧u.sz m∧Q2.sz m u.p :=
 ⟨_,rfl,Vm h,ie _,xe (hs _ (fa h)) (Nat.le_refl _),by rw [ie]; exact hs _ (fa h)⟩
theorem Wt {a b:Q2} (h:cA a=cA b):a=b:=by rw [← ie a,← ie b,h]
theorem Wu {u v:PV} {a b:Q2} (hu:u=cA a) (hv:v=cA b):u=v↔a=b:=by
 subst hu; subst hv;exact ⟨Wt,fun h=>by rw [h]⟩
theorem lQ {k n:Nat} (hk:k < n) (hn:n≤1099511627776):Int.tmod (IntKind.i64.wrap ((k:Int)+1)) (n:Int)=(bg n k:Int):=by
 rw [ar (by omega) (by omega)]
 show Int.tmod ((k+1:Nat):Int) (n:Int)=(((k+1) % n:Nat):Int)
 rfl
theorem CC {k n:Nat} (hk:k < n) (hn:n≤1099511627776):Int.tmod (IntKind.i64.wrap (IntKind.i64.wrap ((k:Int)+(n:Int)) - 1)) (n:Int)=(eJ n k:Int):=by
 rw [ar (x:=(k:Int)+n) (by omega) (by omega),ar (by omega) (by omega)]
 have:(k:Int)+n - 1=((k+n - 1:Nat):Int):=by omega
 rw [this]
 rfl
theorem Eo {X Y:List Q2} {r s:Nat} (h:X[r]?=Y[s]?):bW X r=bW Y s:=by
 unfold bW dq bH;rw [List.getD_eq_getElem?_getD,List.getD_eq_getElem?_getD,List.getElem?_map,List.getElem?_map,h]
theorem Vn {L:List Q2} {m a:Nat} {z:Nat→List Value} (ha:a=L.length - m) (hm:m≤L.length):∀ r,r < L.length →
  iD (fun j=>iD z 0 (fun j=>bW L (eX (0+m) j)) (eX 0 j)) (0+a) (fun j=>bW L (eX 0 j)) r=bW (L.drop m++L.take m) r:=fun r hr=>by
 by_cases h:r < a
 ·rw [jh (by omega),gr (Nat.zero_le _)]
  refine Eo ?_;rw [List.getElem?_append_left (by rw [List.length_drop]; omega),List.getElem?_drop]
  simp [ax]
 ·rw [gr (by omega)]
  refine Eo ?_;rw [List.getElem?_append_right (by rw [List.length_drop]; omega),List.length_drop,List.getElem?_take_of_lt (by omega)]
  simp [ax,ha]
theorem T6 {G:Nat→List Value} {L:List Q2} {m a:Nat} {z:Nat→List Value} (hG:∀ r,r < L.length→G r=bW L r) (ha:a=L.length - m) (hm:m≤L.length):∀ r,r < L.length →
  iD (fun j=>iD z 0 (fun j=>G (eX (0+m) j)) (eX 0 j)) (0+a) (fun j=>G (eX 0 j)) r=bW (L.drop m++L.take m) r:=fun r hr=>by
 rw [← Vn (z:=z) ha hm r hr];by_cases h:r < a
 ·rw [jh (show r < 0+a by omega),jh (show r < 0+a by omega),gr (Nat.zero_le _),gr (Nat.zero_le _)]
  have e:eX (0+m) (eX 0 r - 0)=m+r:=by rw [ax,ax]; omega
  rw [e];exact hG _ (by omega)
 ·rw [gr (show 0+a≤r by omega),gr (show 0+a≤r by omega)]
  have e:eX 0 (r - (0+a))=r - a:=by rw [ax]; omega
  rw [e];exact hG _ (by omega)
def XV.p (b:XV):Q4:=(b.1.p,b.2.p)
abbrev LL:=Option (List R3 × Nat)
def Zn (l:List R3):Nat→List Value:=fun r=>(l.getD r ze).cells
def LL.val:LL→Value
 | none=>.slice none 0 0
 | some i=>.slice (some ⟨0,0,none⟩) i.1.length i.2
def LL.aj:LL→List ah
 | none=>[]
 | some i=>[.flat false i.1.length 9 (Zn i.1)]
def LL.list:LL→List R3
 | none=>[]
 | some i=>i.1
def qs (l:List R3):List Q3:=l.map R3.q
instance (b:Q4):Decidable (okB b):=inferInstanceAs (Decidable (_∧_))
def adl (l:List Q3):Bool:=l.any fun m=>decide (¬ mP m)
theorem rV {O:List Q2} {q:Nat} {F f:Nat→List Value} {p:PV} {x:Q2} (hq:q=O.length) (hF:∀ r,r < q→F r=bW O r) (hp:p=cA x) (hf:f 0=p.cells):∀ r,r < q+1→iD F q f r=bW (O++[x]) r:=fun r hr=>by
 by_cases h:r < q
 ·rw [jh h,hF r h];exact Eo (by rw [List.getElem?_append_left (by omega)])
 ·rw [gr (by omega),show r - q=0 by omega,hf,hp]
  have:r=O.length:=by omega
  subst this;unfold bW dq bH;rw [List.getD_eq_getElem?_getD,List.getElem?_map];simp
theorem wH {f:Nat→List Value} {p:PV} {x:Q2} (hp:p=cA x) (hf:f 0=p.cells):∀ r,r < 1→f r=bW [x] r:=fun r hr=>by
 have:r=0:=by omega
 subst this;rw [hf,hp]; rfl
theorem LM {α β:Type} {l:List α} {f:α→List β} {j:Nat} {e:α} (h:l[j]?=some e):(l.take (j+1)).flatMap f=(l.take j).flatMap f++f e:=by
 rw [List.take_add_one,h];simp
theorem Vo (m:Q3) (e:Q2 × Q2):(ny m e).length≤2:=by
 unfold ny nq gK;rw [List.length_append]
 split <;> split <;> simp
theorem Fe (m:Q3):∀ l:List (Q2 × Q2),(l.flatMap (ny m)).length≤2*l.length
 | []=>by simp
 | e::l=>by
  have:=Fe m l;have:=Vo m e;rw [List.flatMap_cons,List.length_append,List.length_cons];omega
theorem Vp (m:Q3) (l:List Q2):(fh m l).length≤2*l.length:=by
 rw [Ni];have:=Fe m (a8 l);rw [mX] at this;exact this
open Go
def nY {α:Type} (f:α→Bool) (l:List α) (i:Nat):Prop:=(l.take i).any f=false
theorem D3 {α:Type} (f:α→Bool) (l:List α):nY f l 0:=rfl
theorem tG {α:Type} {f:α→Bool} {l:List α} {i:Nat} {x:α} (h:nY f l i) (hx:l[i]?=some x) (hf:f x=false):nY f l (i+1):=by
 unfold nY at *;rw [List.take_add_one,hx,List.any_append,h];simp [hf]
theorem EE {α:Type} {f:α→Bool} {l:List α} (h:nY f l l.length):l.any f=false:=by
 unfold nY at h;rw [List.take_length] at h;exact h
open Go
theorem SO {p q:Q2}:fF q p=0↔fF p q=0:=by rw [oR,oR]; exact eq_comm
open Go
structure adN (b:Q4) (l:List Q3):Prop where
 okb:okB b
 adX:adl l=false
 few:l.length≤60
 gx:bG (Hj b l)
 flat:¬ Flat (Hj b l)
 ring:Ring (fE (Hj b l))
theorem Mx {P:List Q2} (h:Ring P):bG (eM P)∧(eM P).Nodup∧3≤(eM P).length:=⟨Fb h.gx,ED h.nodup,by rw [AV]; exact h.three⟩
theorem wV {l:List Q2} (h:l.Nodup) {i j:Nat} (hi:i < l.length) (hj:j < l.length) (e:aC l i=aC l j):i=j:=by
 have h1:=hJ hi;have J:=hJ hj;rw [e] at h1;exact (List.getElem?_inj hi h).1 (h1.trans J.symm)
def adm (L:List Q2) (p:Q2):Prop:=∀ k,k < L.length→0≤an (aC L k) (aC L (bg L.length k)) p
theorem RP {P:List Q2} (h:Ring P) {u v w:Q2} (h1:(u,v)∈a8 P) (J:(v,w)∈a8 P):0 < an u v w:=by
 obtain ⟨i,hi,e1⟩:=FH h1;obtain ⟨j,hj,e2⟩:=FH J;have a1:u=aC P i:=congrArg Prod.fst e1;have a2:v=aC P (bg P.length i):=congrArg Prod.snd e1;have b1:v=aC P j:=congrArg Prod.fst e2;have b2:w=aC P (bg P.length j):=congrArg Prod.snd e2;have e:=wV h.nodup (cV hi) hj (a2.symm.trans b1);subst e;have:=h.xg _ hj;rw [Gi hi] at this;rw [a1,a2,b2]; exact this
theorem T7 {P:List Q2} (h:Ring P):Ring (eM P):=by
 obtain ⟨h1,_,h3⟩:=Mx h;have hm:∀ e,e∈a8 (eM P)→e∈a8 P:=fun e he=>by
  have:=Bf he
  rwa [List.take_append_drop] at this
 exact ⟨h1,h3,fun k hk=>RP h (hm _ (rU hk)) (hm _ (m6 hk))⟩
theorem RQ {P:List Q2} (h:Ring P) {k:Nat} (hk:k < (eM P).length) (h0:0 < k):0 < fF (aC (eM P) k) (aC (eM P) 0):=by
 obtain ⟨_,hn,h3⟩:=Mx h;obtain ⟨a,A,e,hle⟩:=Fc (l:=P) (fun e=>by have:=h.three; rw [e] at this; exact absurd this (by decide))
 have ea:aC (eM P) 0=a:=by rw [e]; rfl
 have h1:=ud.1 (hle _ (tW.1 (fa hk)));rw [← ea] at h1;have J:fF (aC (eM P) k) (aC (eM P) 0)≠0:=fun e=>by
  have:=wV hn hk (by omega) (oR.1 e)
  omega
 omega
instance (L:List Q2) (p:Q2):Decidable (adm L p):=inferInstanceAs (Decidable (∀ k,k < L.length→_))
open Go
theorem Nj {o:Bool} (p:PV):aO (.flat false 1 6 (fun _=>p.cells)) (.aL o 6 [p.cells]) :=
 ⟨(fun h=>by cases h),rfl,Nat.le_refl _,fun r hr=>by
  have:r=0:=by have:r < 1:=hr; omega
  subst this; rfl,fun r hr v hv=>dz (show mF p.cells=true from rfl) v hv⟩
def Qe (m:Q3) (p:Q2):Prop:=mP m∧0≤bd m p
instance (m:Q3) (p:Q2):Decidable (Qe m p):=inferInstanceAs (Decidable (_∧_))
def abF (b:Q4) (l:List Q3) (p:Q2):Prop:=Ph b p∧∀ m∈l,Qe m p
instance (b:Q4) (p:Q2):Decidable (Ph b p):=inferInstanceAs (Decidable (_∧_∧_∧_))
instance (b:Q4) (l:List Q3) (p:Q2):Decidable (abF b l p):=inferInstanceAs (Decidable (_∧_))
theorem Zo {k n:Nat} (hk:k < n) (hn:n≤1099511627776):Int.tmod (IntKind.i64.wrap ((k:Int)+2)) (n:Int)=(bg n (bg n k):Int):=by
 rw [ar (by omega) (by omega)]
 show Int.tmod ((k+2:Nat):Int) (n:Int)=(((k+1) % n+1) % n:Nat)
 rw [Nat.mod_add_mod]
 rfl
open Go
def aV (L:List PV):List Q2:=L.map PV.p
def jd (L:List PV) (k:Nat):PV:=L.getD k (aZ,aZ)
theorem FM {L:List PV} {k:Nat} (h:k < L.length):L[k]?=some (jd L k):=by
 unfold jd; rw [List.getD_eq_getElem?_getD,List.getElem?_eq_getElem h]; rfl
theorem oW {L:List PV} {k:Nat} (h:k < L.length):jd L k∈L:=List.mem_of_getElem? (FM h)
theorem rR {L:List PV} {k:Nat} (h:k < L.length):dq L k=(jd L k).cells:=by
 unfold dq;rw [List.getD_eq_getElem?_getD,FM h]; rfl
theorem ky {L:List PV} {k:Nat} (h:k < L.length):(jd L k).p=aC (aV L) k:=by
 refine (sh ?_).symm;unfold aV;rw [List.getElem?_map,FM h]; rfl
theorem Ep {α β:Type} {f:α→List β} {c:Nat} (h:∀ a,(f a).length≤c):∀ l:List α,(l.flatMap f).length≤c*l.length
 | []=>by simp
 | e::l=>by
  have:=Ep h l;have:=h e;rw [List.flatMap_cons,List.length_append,List.length_cons,Nat.mul_add];omega
theorem Vq {l:List Q2} {i:Nat} {a b c:Q2} {z:Int} (ha:a=aC l (eJ l.length i)) (hb:b=aC l i) (hc:c=aC l (bg l.length i)) (hz:z=aN (an a b c) 0):n5 l i=if z≠0 then [b] else []:=by
 unfold n5;rw [← ha,← hb,← hc,hz];by_cases h:an a b c=0
 ·rw [if_neg (fun e=>e h),if_neg (fun e=>e (Gf h))]
 ·rw [if_pos h,if_pos (fun e=>h (cc.1 e))]
theorem dp (L:List PV):(aV L).length=L.length:=List.length_map ..
theorem yA {L:List PV} {k:Nat} (h:∀ v∈L,v.sz k) (hk:1≤k):∀ v∈aV L,Q2.sz k v:=fun v hv=>by
 obtain ⟨p,hp,rfl⟩:=List.mem_map.1 hv;exact PV.c9 (h p hp) hk
theorem Wv (L:List Q2) (j:Nat):(((a8 L).take j).flatMap nr).length≤L.length:=by
 refine Nat.le_trans (Ep (c:=1) (fun e=>by unfold nr; split <;> simp) _) ?_
 rw [List.length_take,mX]; omega
theorem Ww (L:List Q2) (j:Nat):((List.range j).flatMap (n5 L)).length≤j:=by
 refine Nat.le_trans (Ep (c:=1) (fun e=>by unfold n5; split <;> simp) _) ?_
 rw [List.length_range]; omega
open Go
theorem Zp (o i j k m:Q2):an o j k*an i j m=an o j m*an i j k+an o i j*an j k m:=by simp only [fC]; grind
theorem Zq (o i j k m:Q2):an o j k*an i k m=an o k m*an i j k+an o i k*an j k m:=by simp only [fC]; grind
theorem EF {a x s:Rat} (ha:0 < a) (h:a*x=s) (hs:0 < s):0 < x:=by
 by_cases hx:0 < x
 ·exact hx
 ·have:=Rat.mul_nonneg (show 0≤a by grind) (show 0≤-x by grind)
  grind
theorem Nk {a b c d:Rat} (ha:0 < a) (hb:0 < b) (hc:0 < c) (hd:0 < d):0 < a*b+c*d:=by
 have:=Rat.mul_pos ha hb;have:=Rat.mul_pos hc hd;grind
def iK (a b:Q2):Prop:=a.1 < b.1∨a.1=b.1∧a.2 < b.2
theorem T8 {o a b c:Q2} (ha:iK o a) (hb:iK o b) (hc:iK o c) (h1:0 < an o a b) (J:0 < an o b c):0 < an o a c:=by
 have e:(b.1 - o.1)*an o a c=(a.1 - o.1)*an o b c+(c.1 - o.1)*an o a b:=by simp only [fC]; grind
 have DA:0 < b.1 - o.1:=by
  rcases hb with h | ⟨h,h'⟩
  ·grind
  ·exfalso;have e2:an o b c=-((b.2 - o.2)*(c.1 - o.1)):=by rw [fC,show b.1 - o.1=0 by grind]; grind
   have:=Rat.mul_nonneg (show 0≤b.2 - o.2 by grind) (show 0≤c.1 - o.1 by rcases hc with h | ⟨h,_⟩ <;> grind)
   grind
 have vw:0 < a.1 - o.1:=by
  rcases ha with h | ⟨h,h'⟩
  ·grind
  ·exfalso;have e2:an o a b=-((a.2 - o.2)*(b.1 - o.1)):=by rw [fC,show a.1 - o.1=0 by grind]; grind
   have:=Rat.mul_pos (show 0 < a.2 - o.2 by grind) DA
   grind
 refine EF DA e ?_;have:=Rat.mul_pos vw J;have:=Rat.mul_nonneg (show 0≤c.1 - o.1 by rcases hc with h | ⟨h,_⟩ <;> grind) (show 0≤an o a b by grind)
 grind
theorem Vr {o:Q2}:∀ l:List Q2,(∀ v∈l,iK o v)→(∀ e∈cl l,0 < an o e.1 e.2)→l.Pairwise (fun a b=>0 < an o a b):=by
 intro l
 induction l with
 | nil=>exact fun _ _=>.nil
 | cons a l ih =>
  intro hv he;cases l with
  | nil=>simp
  | cons b l =>
   rw [mn] at he;have J:=ih (fun v h=>hv v (List.mem_cons_of_mem _ h)) (fun e h=>he e (List.mem_cons_of_mem _ h))
   rw [List.pairwise_cons];refine ⟨fun c hc=>?_,J⟩
   have ef:=he (a,b) (List.mem_cons_self ..);rcases List.mem_cons.1 hc with rfl | cC
   ·exact ef
   ·rw [List.pairwise_cons] at J;exact T8 (hv a (List.mem_cons_self ..)) (hv b (List.mem_cons_of_mem _ (List.mem_cons_self ..))) (hv c (List.mem_cons_of_mem _ hc)) ef (J.1 c cC)
def zf:List Q2→Prop
 | []=>True
 | a::l=>l.Pairwise (fun b c=>0 < an a b c)∧zf l
theorem zf.gx:∀ {l:List Q2},zf l→bG l
 | [],_=>trivial
 | a::l,h=>⟨h.1.imp (fun h=>by grind),zf.gx h.2⟩
theorem Vs {o:Q2}:∀ l:List Q2,l.Pairwise (fun a b=>0 < an o a b)→(∀ e∈cl (cl l),0 < an e.1.1 e.1.2 e.2.2)→zf l:=by
 intro l
 induction l with
 | nil=>exact fun _ _=>trivial
 | cons a l ih =>
  intro hf hc;rw [List.pairwise_cons] at hf;obtain ⟨Qf,hf⟩:=hf;cases l with
  | nil=>exact ⟨.nil,trivial⟩
  | cons b l =>
   have hS:=ih hf (fun e he=>hc e (by
    cases l with
    | nil=>cases he
    | cons c l=>rw [mn,mn,mn]; exact List.mem_cons_of_mem _ he))
   rw [List.pairwise_cons] at hf;have I7:l.Pairwise (fun x y=>0 < an b x y):=hS.1
   have h1:∀ z∈l,0 < an a b z:=by
    cases l with
    | nil=>intro z hz; cases hz
    | cons c l =>
     have Pj:0 < an a b c:=hc ((a,b),(b,c)) (by rw [mn,mn,mn]; exact List.mem_cons_self ..)
     intro z hz;rcases List.mem_cons.1 hz with rfl | oq
     ·exact Pj
     ·rw [List.pairwise_cons] at I7;exact EF (hf.1 c (List.mem_cons_self ..)) (Zp o a b c z) (Nk (hf.1 z hz) Pj (Qf b (List.mem_cons_self ..)) (I7.1 z oq))
   refine ⟨?_,hS⟩;rw [List.pairwise_cons];refine ⟨h1,?_⟩;have h3:=List.Pairwise.and_mem.1 (I7.and hf.2);refine h3.imp fun {x y} ⟨hx,hy,adn,ado⟩=>?_
   exact EF (hf.1 x hx) (Zq o a b x y) (Nk ado (h1 x hx) (Qf x (List.mem_cons_of_mem _ hx)) adn)
theorem K6 {α:Type} {l:List α} {e:α × α} (h:e∈cl l):∃ i,l[i]?=some e.1∧l[i+1]?=some e.2:=by
 obtain ⟨i,hi,rfl⟩:=List.getElem_of_mem h;refine ⟨i,?_⟩;have:(cl l)[i]?=some (cl l)[i]:=List.getElem?_eq_getElem hi;unfold cl at this;rw [List.getElem?_zip_eq_some,List.getElem?_tail] at this;exact this
theorem yB {a b:Q2}:fF a b < 0↔iK a b:=by
 have h:=ud (a:=b) (b:=a);unfold iz at h;unfold iK;constructor
 ·intro hc;have hn:¬ (b.1 < a.1∨b.1=a.1∧b.2≤a.2):=fun e=>h.1 e hc
  grind
 ·intro hc;refine Decidable.byContradiction fun hn=>?_
  have:=h.2 hn;grind
def lR (Q:List Q2):Prop:=∀ i,0 < i→i < Q.length→iK (aC Q 0) (aC Q i)
def o7 (Q:List Q2) (i:Nat):Prop:=an (aC Q i) (aC Q (bg Q.length i)) (aC Q (bg Q.length (bg Q.length i)))≤0∨(0 < i∧i+1 < Q.length∧an (aC Q 0) (aC Q i) (aC Q (i+1))≤0)
def yR (Q:List Q2) (i:Nat):Prop:=∃ p∈Q,p≠aC Q i∧p≠aC Q (bg Q.length i)∧an (aC Q i) (aC Q (bg Q.length i)) p≤0
theorem xh {Q:List Q2} (h:lR Q) {i:Nat} (h0:0 < i) (hi:i < Q.length):aC Q 0≠aC Q i:=fun e=>by
 have:=h i h0 hi;rw [← e] at this;rcases this with h | ⟨_,h⟩ <;> exact absurd h (Rat.not_lt.2 (Rat.le_refl))
theorem yt {Q:List Q2} (h3:3≤Q.length) (ho:lR Q):Ring Q↔∀ i,i < Q.length→¬ o7 Q i:=by
 constructor
 ·intro hR i hi hb;rcases hb with hb | ⟨h0,h1,hb⟩
  ·have hn:=cV hi;have:=hR.xg _ hn;rw [Gi hi] at this;grind
  ·have mN:=hR.nodup;have hT:=hR.gx;have e0:(Q.length - 1+1)=Q.length:=by omega
   have dZ:0≤an (aC Q i) (aC Q (i+1)) (aC Q 0):=by
    have he:=m6 hi;rw [show bg Q.length i=i+1 from Nat.mod_eq_of_lt h1] at he
    exact pX hT he (fa (by omega))
   have aH:an (aC Q 0) (aC Q i) (aC Q (i+1))≠0:=AE (hR.ext.1 (fa (by omega))) (hR.ext.1 (fa hi)) (hR.ext.1 (fa h1)) (xh ho h0 hi) (xh ho (by omega) h1) fun e=>by
    have:=wV mN hi h1 e;omega
   rw [wT] at hb aH;grind
 ·intro h;have Pk:∀ k,k < Q.length→0 < an (aC Q (eJ Q.length k)) (aC Q k) (aC Q (bg Q.length k)):=fun k hk=>by
   have:=h _ (kt hk);unfold o7 at this;rw [Gh hk] at this;exact Rat.not_le.1 fun e=>this (.inl e)
  refine ⟨?_,h3,Pk⟩;cases Q with
  | nil=>exact trivial
  | cons o l =>
   have hv:∀ v∈l,iK o v:=fun v hv=>by
    obtain ⟨i,hi,rfl⟩:=wU hv;exact ho (i+1) (by omega) (by simp; omega)
   have hp:=Vr l hv fun e he=>by
    obtain ⟨i,h1,J⟩:=K6 he;have hi:i+1 < l.length:=(List.getElem?_eq_some_iff.1 J).1;have:=h (i+1) (by simp; omega)
    unfold o7 at this;have e1:aC (o::l) (i+1)=e.1:=sh h1;have e2:aC (o::l) (i+1+1)=e.2:=sh J;have e0:aC (o::l) 0=o:=rfl;rw [e1,e2,e0] at this;exact Rat.not_le.1 fun e=>this (.inr ⟨by omega,by simp; omega,e⟩)
   refine ⟨hp.imp (fun h=>by grind),(Vs l hp fun e he=>?_).gx⟩
   obtain ⟨i,h1,J⟩:=K6 he;have g1:l[i]?=some e.1.1∧l[i+1]?=some e.1.2:=by
    unfold cl at h1;rw [List.getElem?_zip_eq_some,List.getElem?_tail] at h1;exact h1
   have g2:l[i+1]?=some e.2.1∧l[i+1+1]?=some e.2.2:=by
    unfold cl at J;rw [List.getElem?_zip_eq_some,List.getElem?_tail] at J;exact J
   have hi:i+1+1 < l.length:=(List.getElem?_eq_some_iff.1 g2.2).1;have:=Pk (i+1+1) (by simp; omega)
   have hn:bg (o::l).length (i+1+1)=i+1+1+1:=Nat.mod_eq_of_lt (by simp; omega)
   have hq:eJ (o::l).length (i+1+1)=i+1:=by
    have:=Gi (n:=(o::l).length) (k:=i+1) (by simp; omega)
    rwa [show bg (o::l).length (i+1)=i+1+1 from Nat.mod_eq_of_lt (by simp; omega)] at this
   rw [hn,hq] at this;have e1:aC (o::l) (i+1)=e.1.1:=sh g1.1;have e2:aC (o::l) (i+1+1)=e.1.2:=sh g1.2;have e3:aC (o::l) (i+1+1+1)=e.2.2:=sh g2.2;rw [e1,e2,e3] at this;exact this
theorem T9 {Q:List Q2} (h3:3≤Q.length) (ho:lR Q) (h:∀ i,i < Q.length→¬ yR Q i):∀ i j,i < j→j < Q.length→aC Q i≠aC Q j:=by
 have ao:∀ i,i < Q.length→∀ p∈Q,p≠aC Q i→p≠aC Q (bg Q.length i)→0 < an (aC Q i) (aC Q (bg Q.length i)) p:=fun i hi p hp h1 J =>
  Rat.not_le.1 fun e=>h i hi ⟨p,hp,h1,J,e⟩
 have aH:∀ i,i < Q.length→aC Q i≠aC Q (bg Q.length i):=fun i hi e=>by
  by_cases h0:i=0
  ·subst h0;exact xh ho (i:=bg Q.length 0) (by unfold bg; rw [Nat.mod_eq_of_lt (by omega)]; omega) (cV hi) e
  ·have bM:aC Q 0≠aC Q i:=xh ho (by omega) hi
   have:=ao i hi (aC Q 0) (fa (by omega)) bM (fun e2=>bM (e2.trans e.symm))
   rw [← e,BO] at this;grind
 have key:∀ d i j,Q.length - j=d→0 < i→i < j→j < Q.length→aC Q i≠aC Q j:=by
  intro d
  induction d with
  | zero=>intro i j hd _ _ hj; omega
  | succ d ih =>
   intro i j hd h0 xR hj e;have hi:i < Q.length:=by omega
   have eni:bg Q.length i=i+1:=Nat.mod_eq_of_lt (by omega)
   have fR:aC Q (bg Q.length i)=aC Q (bg Q.length j):=by
    refine Decidable.byContradiction fun hc=>?_
    have a:=ao i hi (aC Q (bg Q.length j)) (fa (cV hj)) (by rw [e]; exact Ne.symm (aH j hj)) (Ne.symm hc)
    have b:=ao j hj (aC Q (bg Q.length i)) (fa (cV hi)) (by rw [← e]; exact Ne.symm (aH i hi)) hc
    rw [← e,yr] at b;grind
   rw [eni] at fR;by_cases hl:j+1 < Q.length
   ·rw [show bg Q.length j=j+1 from Nat.mod_eq_of_lt hl] at fR
    exact ih (i+1) (j+1) (by omega) (by omega) (by omega) hl fR
   ·have:j+1=Q.length:=by omega
    rw [show bg Q.length j=0 from by unfold bg; rw [this,Nat.mod_self]] at fR
    exact xh ho (i:=i+1) (by omega) (by omega) fR.symm
 intro i j xR hj;by_cases h0:i=0
 ·subst h0; exact xh ho xR hj
 ·exact key _ i j rfl (by omega) xR hj
theorem My {Q:List Q2} (h3:3≤Q.length) (ho:lR Q):Ring Q↔∀ i,i < Q.length→¬ yR Q i:=by
 constructor
 ·rintro hR i hi ⟨p,hp,h1,J,hb⟩
  have dZ:=pX hR.gx (m6 hi) hp;have:=AE (hR.ext.1 (fa hi)) (hR.ext.1 (fa (cV hi))) (hR.ext.1 hp) (hR.ne _ (m6 hi)) (Ne.symm h1) (Ne.symm J);grind
 ·intro h;have mN:=T9 h3 ho h;have hd:∀ i j,i < Q.length→j < Q.length→i≠j→aC Q i≠aC Q j:=fun i j hi hj aH=>by
   rcases Nat.lt_or_gt_of_ne aH with h | h
   ·exact mN i j h hj
   ·exact Ne.symm (mN j i h hi)
  have ao:∀ i j,i < Q.length→j < Q.length→j≠i→j≠bg Q.length i→0 < an (aC Q i) (aC Q (bg Q.length i)) (aC Q j):=fun i j hi hj h1 J =>
   Rat.not_le.1 fun e=>h i hi ⟨aC Q j,fa hj,hd j i hj hi h1,hd j _ hj (cV hi) J,e⟩
  refine (yt h3 ho).2 fun i hi hb=>?_
  rcases hb with hb | ⟨h0,h1,hb⟩
  ·have hn:=cV hi;have:=ao i _ hi (cV hn) (fun e=>by
    unfold bg at e;rcases Nat.lt_or_ge (i+1) Q.length with h | h
    ·rw [Nat.mod_eq_of_lt h] at e;rcases Nat.lt_or_ge (i+1+1) Q.length with h' | h'
     ·rw [Nat.mod_eq_of_lt h'] at e; omega
     ·rw [show i+1+1=Q.length by omega,Nat.mod_self] at e; omega
    ·rw [show i+1=Q.length by omega,Nat.mod_self,Nat.mod_eq_of_lt (by omega)] at e; omega) (xf hn (by omega))
   grind
  ·have:=ao i 0 hi (by omega) (by omega) (by rw [show bg Q.length i=i+1 from Nat.mod_eq_of_lt h1]; omega)
   rw [show bg Q.length i=i+1 from Nat.mod_eq_of_lt h1,← wT] at this
   grind
end Go.Ae
