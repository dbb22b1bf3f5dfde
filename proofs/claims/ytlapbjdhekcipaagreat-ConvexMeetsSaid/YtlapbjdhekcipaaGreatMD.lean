import Derived.Laws.Strings
import Derived.Test.YtlapbjdhekcipaaGreatMC
set_option linter.unusedVariables false
set_option linter.unusedSimpArgs false
namespace Go.Ae
open Go
theorem Vj (x:Int):IntKind.i64.wrap x=if x % 18446744073709551616 ≥ 9223372036854775808 then x % 18446744073709551616 - 18446744073709551616 else x % 18446744073709551616:=by
 have:IntKind.i64.wrap x=if (true && decide (x % (2 ^ 64:Int) ≥ (2 ^ 63:Int)))=true then x % (2 ^ 64:Int) - (2 ^ 64:Int) else x % (2 ^ 64:Int):=rfl
 rw [this];simp
theorem ay {x:Int} (h:-9223372036854775808≤x) (J:x < 9223372036854775808):IntKind.i64.wrap x=x:=by
 rw [Vj]
 split <;> omega
theorem BB (x:Int):IntKind.u64.wrap x=x % 18446744073709551616:=by
 unfold IntKind.wrap;simp [IntKind.bits,IntKind.signed]
theorem bL {x:Int} (h:0≤x) (J:x < 18446744073709551616):IntKind.u64.wrap x=x:=by rw [BB]; omega
theorem wx (x:Int):IntKind.u32.wrap x=x % 4294967296:=by
 unfold IntKind.wrap;simp [IntKind.bits,IntKind.signed]
theorem db {x:Int} (h:0≤x) (J:x < 4294967296):IntKind.u32.wrap x=x:=by rw [wx]; omega
theorem kQ (x:Int):IntKind.u8.wrap x=x % 256:=by
 unfold IntKind.wrap;simp [IntKind.bits,IntKind.signed]
theorem dD {x:Int} (h:0≤x) (J:x < 256):IntKind.u8.wrap x=x:=by rw [kQ]; omega
abbrev B:Nat:=4294967296
theorem eE (n:Nat):0 < B ^ n:=Nat.pow_pos (by decide)
def an (N i:Nat):Nat:=N / B ^ i % B
theorem cI (N i:Nat):an N i < B:=Nat.mod_lt _ (by decide)
def cF (Y j d:Nat):Nat:=Y % B ^ j+B ^ j*(d+B*(Y / B ^ (j+1)))
theorem Fi (Y j:Nat):Y=Y % B ^ j+B ^ j*(an Y j+B*(Y / B ^ (j+1))):=by
 have h1:=Nat.mod_add_div Y (B ^ j);have J:=Nat.mod_add_div (Y / B ^ j) B;rw [Nat.div_div_eq_div_mul,← Nat.pow_succ] at J;unfold an;rw [J,h1]
theorem pH (Y j d:Nat):cF Y j d+an Y j*B ^ j=Y+d*B ^ j:=by
 have h:=Fi Y j;unfold cF;rw [Nat.mul_add] at h ⊢;have e1:B ^ j*an Y j=an Y j*B ^ j:=Nat.mul_comm _ _;have e2:B ^ j*d=d*B ^ j:=Nat.mul_comm _ _;omega
theorem ov {a k Q:Nat} (h:a < k):(a+k*Q) / k=Q:=by
 have hk:0 < k:=by omega
 rw [Nat.add_mul_div_left _ _ hk,Nat.div_eq_of_lt h,Nat.zero_add]
theorem FJ {Y j d:Nat} (hd:d < B) (r:Nat):an (cF Y j d) r=if r=j then d else an Y r:=by
 have ha:Y % B ^ j < B ^ j:=Nat.mod_lt _ (eE j);rcases Nat.lt_trichotomy r j with h | h | h
 ·rw [if_neg (by omega)]
  have key:∀ K,an (Y % B ^ j+B ^ j*K) r=an (Y % B ^ j) r:=by
   intro K;unfold an;have e:B ^ j*K=B ^ r*(B*(B ^ (j - r - 1)*K)):=by
    rw [← Nat.mul_assoc,← Nat.mul_assoc,← Nat.pow_succ,← Nat.pow_add,show r+1+(j - r - 1)=j by omega]
   rw [e,Nat.add_mul_div_left _ _ (eE r),Nat.add_mul_mod_self_left]
  have h1:=key (d+B*(Y / B ^ (j+1)));have J:=key (an Y j+B*(Y / B ^ (j+1)));rw [← Fi Y j] at J;unfold cF;rw [h1,J]
 ·subst h;rw [if_pos rfl];unfold cF an;rw [ov ha,Nat.add_mul_mod_self_left,Nat.mod_eq_of_lt hd]
 ·rw [if_neg (by omega)]
  have key:∀ d',d' < B→an (Y % B ^ j+B ^ j*(d'+B*(Y / B ^ (j+1)))) r=Y / B ^ (j+1) / B ^ (r - j - 1) % B:=by
   intro d' cV;unfold an;have e:B ^ r=B ^ j*(B*B ^ (r - j - 1)):=by
    rw [← Nat.mul_assoc,← Nat.pow_succ,← Nat.pow_add,show j+1+(r - j - 1)=r by omega]
   rw [e,← Nat.div_div_eq_div_mul,ov ha,← Nat.div_div_eq_div_mul,ov cV]
  have h1:=key d hd;have J:=key (an Y j) (cI Y j);rw [← Fi Y j] at J;unfold cF;rw [h1,J]
def bo (N:Nat):Nat→List Value:=fun r=>[.int .u32 (an N r)]
theorem fw {Y j d:Nat} (hd:d < B):(fun r=>if r=j then [Value.int .u32 d] else bo Y r)=bo (cF Y j d):=by
 funext r
 unfold bo;rw [FJ hd]
 split <;> rfl
theorem Fj (r:Nat):an 0 r=0:=by simp [an]
theorem tD:(fun _=>[Value.int .u32 0])=bo 0:=by
 funext r
 simp [bo,Fj]
theorem tU {N n:Nat} (h:N < B ^ n) {r:Nat} (hr:n≤r):an N r=0:=by
 unfold an;have:B ^ n≤B ^ r:=Nat.pow_le_pow_right (by decide) hr
 rw [Nat.div_eq_of_lt (by omega)]; rfl
theorem mod_succ (N i:Nat):N % B ^ (i+1)=N % B ^ i+an N i*B ^ i:=by
 unfold an;rw [Nat.pow_succ,Nat.mod_mul];rw [Nat.mul_comm (B ^ i)]
theorem pN (N i:Nat):N / B ^ i=an N i+B*(N / B ^ (i+1)):=by
 have J:=Nat.mod_add_div (N / B ^ i) B;rw [Nat.div_div_eq_div_mul,← Nat.pow_succ] at J;exact J.symm
def nl (N:Nat):Nat:=if h:N=0 then 0 else nl (N / B)+1
decreasing_by exact Nat.div_lt_self (by omega) (by decide)
theorem rP:nl 0=0:=by rw [nl]; rfl
theorem Gl {N:Nat} (h:N≠0):nl N=nl (N / B)+1:=by rw [nl]; simp [h]
theorem bW (N:Nat):N < B ^ nl N:=by
 induction N using Nat.strongRecOn with
 | _ N ih =>
  by_cases h:N=0
  ·subst h; rw [rP]; decide
  ·have:=ih (N / B) (Nat.div_lt_self (by omega) (by decide))
   rw [Gl h,Nat.pow_succ];exact (Nat.div_lt_iff_lt_mul (by decide)).1 this
theorem jD {N n:Nat} (h:N < B ^ n):nl N≤n:=by
 induction n generalizing N with
 | zero =>
  have:N=0:=by simpa using h
  subst this; rw [rP]; exact Nat.le_refl _
 | succ n ih =>
  by_cases h0:N=0
  ·subst h0; rw [rP]; omega
  ·have:N / B < B ^ n:=(Nat.div_lt_iff_lt_mul (by decide)).2 (by rw [← Nat.pow_succ]; exact h)
   rw [Gl h0];have:=ih this;omega
theorem yL {N:Nat} (h:N≠0):0 < nl N:=by rw [Gl h]; omega
theorem K7 {N:Nat} (h:nl N=0):N=0:=by
 by_cases h0:N=0
 ·exact h0
 ·have:=yL h0; omega
theorem RI {N:Nat} (h:N≠0):B ^ (nl N - 1)≤N:=by
 rcases Nat.lt_or_ge N (B ^ (nl N - 1)) with h1 | h1
 ·have:=jD h1;have:=yL h;omega
 ·exact h1
theorem OT {N n:Nat} (h:N < B ^ n) (J:n=0∨an N (n - 1)≠0):nl N=n:=by
 rcases J with rfl | J
 ·have:=jD h; omega
 ·have h3:=jD h;rcases Nat.lt_or_ge (nl N) n with h4 | h4
  ·exact absurd (tU (bW N) (show nl N≤n - 1 by omega)) J
  ·omega
theorem kR {M N:Nat} (h:M≤N):nl M≤nl N:=jD (Nat.lt_of_le_of_lt h (bW N))
theorem KA {M N:Nat} (h:nl M < nl N):M < N:=by
 rcases Nat.lt_or_ge M N with h1 | h1
 ·exact h1
 ·have:=kR h1; omega
theorem Vk {N:Nat} (h:N≠0):an N (nl N - 1)≠0:=by
 intro h0;have h1:=bW N;have J:=yL h;have e:nl N=nl N - 1+1:=by omega
 have h3:=mod_succ N (nl N - 1);rw [← e,h0,Nat.mod_eq_of_lt h1] at h3;have h4:=Nat.mod_lt N (eE (nl N - 1));have:=jD (show N < B ^ (nl N - 1) by omega)
 omega
open Go
abbrev C:Nat:=256
theorem gO (n:Nat):0 < C ^ n:=Nat.pow_pos (by decide)
def dn (l:List UInt8):Nat:=l.foldl (fun a b=>a*C+b.toNat) 0
theorem LS (l:List UInt8):∀ a,l.foldl (fun a b=>a*C+b.toNat) a=a*C ^ l.length+dn l:=by
 induction l with
 | nil=>intro a; simp [dn]
 | cons b l ih =>
  intro a;simp only [List.foldl_cons,dn];rw [ih,ih (0*C+b.toNat)];rw [List.length_cons,Nat.pow_succ,Nat.add_mul,Nat.zero_mul,Nat.zero_add,Nat.mul_assoc,Nat.mul_comm C,Nat.add_assoc]
theorem rF (b:UInt8) (l:List UInt8):dn (b::l)=b.toNat*C ^ l.length+dn l:=by
 have:=LS l (0*C+b.toNat);rw [Nat.zero_mul,Nat.zero_add] at this
 simpa [dn] using this
theorem AY (l m:List UInt8):dn (l++m)=dn l*C ^ m.length+dn m:=by
 unfold dn;rw [List.foldl_append,LS]
 rfl
theorem Hu (b:UInt8):b.toNat < C:=b.toNat_lt
theorem rQ (l:List UInt8):dn l < C ^ l.length:=by
 induction l with
 | nil=>decide
 | cons b l ih =>
  rw [rF,List.length_cons,Nat.pow_succ];have:=Hu b;have J:(b.toNat+1)*C ^ l.length≤C*C ^ l.length:=Nat.mul_le_mul_right _ this;rw [Nat.add_mul] at J;rw [Nat.mul_comm (C ^ l.length)];omega
theorem Vl {l:List UInt8} {i:Nat} (h:i < l.length):l[i].toNat=dn l / C ^ (l.length - 1 - i) % C:=by
 induction l generalizing i with
 | nil=>simp at h
 | cons b l ih =>
  cases i with
  | zero =>
   simp only [List.getElem_cons_zero,List.length_cons,Nat.add_sub_cancel,Nat.sub_zero];rw [rF,Nat.mul_comm,Nat.mul_add_div (gO _),Nat.div_eq_of_lt (rQ l),Nat.add_zero,Nat.mod_eq_of_lt (Hu b)]
  | succ i =>
   have hi:i < l.length:=by simpa using h
   simp only [List.getElem_cons_succ,List.length_cons,Nat.add_sub_cancel];rw [ih hi,rF];have e:C ^ l.length=C ^ (l.length - (i+1))*(C*C ^ i):=by
    rw [← Nat.mul_assoc,← Nat.pow_succ,← Nat.pow_add,show l.length - (i+1)+1+i=l.length by omega]
   rw [show l.length - 1 - i=l.length - (i+1) by omega,e]
   rw [show b.toNat*(C ^ (l.length - (i+1))*(C*C ^ i))=C ^ (l.length - (i+1))*(C*(C ^ i*b.toNat)) by
    rw [Nat.mul_comm,Nat.mul_assoc,Nat.mul_assoc]]
   rw [Nat.mul_add_div (gO _),Nat.mul_add_mod]
def ab (s:ByteArray):Nat:=dn s.data.toList
theorem size_eq (s:ByteArray):s.data.toList.length=s.size:=rfl
theorem gn (s:ByteArray):ab s < C ^ s.size:=rQ _
theorem tN {s:ByteArray} {i:Nat} (h:i < s.size):bZ s i=ab s / C ^ (s.size - 1 - i) % C:=by
 have h':i < s.data.toList.length:=h;have:=Vl h';unfold bZ ab;rw [List.getD_eq_getElem?_getD,List.getElem?_eq_getElem h',Option.getD_some,this]
 rfl
theorem we (s:ByteArray) (i:Nat):bZ s i < C:=Hu _
theorem GR {s t:ByteArray} (h:s.data.toList=t.data.toList):s=t:=by
 cases s; cases t; congr; exact Array.ext' h
theorem Vm {l m:List UInt8} (h:l.length=m.length) (J:dn l=dn m):l=m:=by
 induction l generalizing m with
 | nil=>cases m with
  | nil=>rfl
  | cons=>simp at h
 | cons a l ih=>cases m with
  | nil=>simp at h
  | cons b m =>
   simp only [List.length_cons,Nat.add_right_cancel_iff] at h;rw [rF,rF,h] at J;have h3:=rQ l;have h4:=rQ m;rw [h] at h3;have ha:a.toNat=b.toNat:=by
    have e1:(a.toNat*C ^ m.length+dn l) / C ^ m.length=a.toNat:=by
     rw [Nat.mul_comm,Nat.mul_add_div (gO _),Nat.div_eq_of_lt h3,Nat.add_zero]
    have e2:(b.toNat*C ^ m.length+dn m) / C ^ m.length=b.toNat:=by
     rw [Nat.mul_comm,Nat.mul_add_div (gO _),Nat.div_eq_of_lt h4,Nat.add_zero]
    rw [← e1,← e2,J]
   rw [ha] at J;rw [UInt8.toNat_inj.1 ha,ih h (by omega)]
theorem Vn {s t:ByteArray} (h:s.size=t.size) (J:ab s=ab t):s=t:=GR (Vm h J)
def pr:Nat→Nat→List UInt8
 | 0,_=>[]
 | n+1,Y=>pr n (Y / C)++[UInt8.ofNat (Y % C)]
theorem vY:∀ (n Y:Nat),(pr n Y).length=n
 | 0,_=>rfl
 | n+1,Y=>by simp [pr,vY n]
theorem ofNat_mod (x:Nat):(UInt8.ofNat (x % C)).toNat=x % C:=by
 have:x % C < 256:=Nat.mod_lt _ (by decide)
 simp [UInt8.toNat_ofNat,Nat.mod_eq_of_lt this]
theorem MD:∀ (n Y:Nat),dn (pr n Y)=Y % C ^ n
 | 0,Y=>by simp [pr,dn,Nat.mod_one]
 | n+1,Y=>by
  rw [pr,AY,MD n,rF];simp only [List.length_cons,List.length_nil,Nat.zero_add,Nat.pow_zero,Nat.mul_one,Nat.pow_one];rw [ofNat_mod,Nat.pow_succ,Nat.mul_comm (C ^ n),Nat.mod_mul];simp only [dn,List.foldl_nil,Nat.add_zero];rw [Nat.mul_comm]; omega
def be (n Y:Nat):ByteArray:=⟨⟨pr n Y⟩⟩
theorem wJ (n Y:Nat):(be n Y).size=n:=vY n Y
theorem Gm (n Y:Nat):ab (be n Y)=Y % C ^ n:=MD n Y
def aT (N:Nat):Nat:=if h:N=0 then 0 else aT (N / C)+1
decreasing_by exact Nat.div_lt_self (by omega) (by decide)
theorem wz:aT 0=0:=by rw [aT]; rfl
theorem FK {N:Nat} (h:N≠0):aT N=aT (N / C)+1:=by rw [aT]; simp [h]
theorem kU (N:Nat):N < C ^ aT N:=by
 induction N using Nat.strongRecOn with
 | _ N ih =>
  by_cases h:N=0
  ·subst h; rw [wz]; decide
  ·have:=ih (N / C) (Nat.div_lt_self (by omega) (by decide))
   rw [FK h,Nat.pow_succ];exact (Nat.div_lt_iff_lt_mul (by decide)).1 this
theorem gE {N n:Nat} (h:N < C ^ n):aT N≤n:=by
 induction n generalizing N with
 | zero =>
  have:N=0:=by simpa using h
  subst this; rw [wz]; exact Nat.le_refl _
 | succ n ih =>
  by_cases h0:N=0
  ·subst h0; rw [wz]; omega
  ·have:N / C < C ^ n:=(Nat.div_lt_iff_lt_mul (by decide)).2 (by rw [← Nat.pow_succ]; exact h)
   rw [FK h0];have:=ih this;omega
theorem Gn {N:Nat} (h:N≠0):0 < aT N:=by rw [FK h]; omega
theorem Sa {N:Nat} (h:aT N=0):N=0:=by
 by_cases h0:N=0
 ·exact h0
 ·have:=Gn h0; omega
theorem iK {M N:Nat} (h:M≤N):aT M≤aT N:=gE (Nat.lt_of_le_of_lt h (kU N))
theorem RJ {M N:Nat} (h:aT M < aT N):M < N:=by
 rcases Nat.lt_or_ge M N with h1 | h1
 ·exact h1
 ·have:=iK h1; omega
theorem Ob {N n:Nat} (h:N < C ^ n) (J:n=0∨C ^ (n - 1)≤N):aT N=n:=by
 rcases J with rfl | J
 ·have:=gE h; omega
 ·have h3:=gE h;rcases Nat.lt_or_ge (aT N) n with h4 | h4
  ·have h5:C ^ aT N≤C ^ (n - 1):=Nat.pow_le_pow_right (by decide) (by omega)
   have:=kU N;omega
  ·omega
theorem Rx {N:Nat} (h:N≠0):C ^ (aT N - 1)≤N:=by
 rcases Nat.lt_or_ge N (C ^ (aT N - 1)) with h1 | h1
 ·have:=gE h1;have:=Gn h;omega
 ·exact h1
def nb (N:Nat):ByteArray:=be (aT N) N
theorem gy (N:Nat):(nb N).size=aT N:=wJ _ _
theorem g8 (N:Nat):ab (nb N)=N:=by unfold nb; rw [Gm,Nat.mod_eq_of_lt (kU N)]
theorem Od {M N:Nat} (h:nb M=nb N):M=N:=by rw [← g8 M,h,g8]
theorem pQ:nb 0=⟨#[]⟩:=by unfold nb; rw [wz]; rfl
theorem iZ (s:ByteArray):aT (ab s)≤s.size:=gE (gn s)
theorem ab9 {s:ByteArray} (h:s.size=0∨C ^ (s.size - 1)≤ab s):s=nb (ab s):=by
 refine Vn ?_ (g8 _).symm;rw [gy,Ob (gn s) h]
theorem yM {s:ByteArray} (h:s.size=0∨bZ s 0≠0):s=nb (ab s):=by
 refine ab9 (h.imp_right fun h=>?_)
 by_cases h0:s.size=0
 ·exfalso;apply h;unfold bZ;have:s.data.toList=[]:=List.eq_nil_of_length_eq_zero h0;rw [this]; rfl
 ·rw [tN (by omega)] at h
  rcases Nat.lt_or_ge (ab s) (C ^ (s.size - 1)) with h1 | h1
  ·rw [Nat.sub_zero,Nat.div_eq_of_lt h1] at h;exact absurd rfl h
  ·exact h1
theorem Sb (s t:ByteArray):ab (s++t)=ab s*C ^ t.size+ab t:=by
 unfold ab;have:(s++t).data.toList=s.data.toList++t.data.toList:=by simp
 rw [this,AY]; rfl
theorem Ke (s:ByteArray) (l h:Nat):(s.extract l h).data.toList=(s.data.toList.take h).drop l:=by
 simp [ByteArray.data_extract,List.extract,List.drop_take]
theorem D9 {s:ByteArray} {l h:Nat} (h1:l≤h) (J:h≤s.size):(s.extract l h).size=h - l:=by
 rw [← size_eq,Ke];have:h≤s.data.toList.length:=J;simp; omega
theorem Uc (l:List UInt8) (n:Nat) (h:n≤l.length):dn (l.drop n)=dn l % C ^ (l.length - n):=by
 have e:dn l=dn (l.take n)*C ^ (l.drop n).length+dn (l.drop n):=by rw [← AY,List.take_append_drop]
 have J:=rQ (l.drop n);rw [List.length_drop] at e J;rw [e,Nat.mul_comm,Nat.mul_add_mod,Nat.mod_eq_of_lt J]
theorem Ud (l:List UInt8) (n:Nat) (h:n≤l.length):dn (l.take n)=dn l / C ^ (l.length - n):=by
 have e:dn l=dn (l.take n)*C ^ (l.drop n).length+dn (l.drop n):=by rw [← AY,List.take_append_drop]
 have J:=rQ (l.drop n);rw [List.length_drop] at e J;rw [e,Nat.mul_comm,Nat.mul_add_div (gO _),Nat.div_eq_of_lt J,Nat.add_zero]
theorem Eo {s:ByteArray} {l h:Nat} (h1:l≤h) (J:h≤s.size):ab (s.extract l h)=ab s / C ^ (s.size - h) % C ^ (h - l):=by
 unfold ab;have jO:h≤s.data.toList.length:=J;have e:(s.data.toList.take h).length=h:=by rw [List.length_take]; omega
 rw [Ke,Uc _ _ (by rw [e]; exact h1),Ud _ _ jO,e]
 rfl
theorem pZ (s t:ByteArray):(s.toList == t.toList)=decide (s=t):=by
 rw [ByteArray.toList_eq,ByteArray.toList_eq];by_cases h:s=t
 ·subst h; simp
 ·simp [h];intro J;exact h (GR (by rw [J]))
theorem Fk {s:ByteArray}:s=⟨#[]⟩↔s.size=0:=by
 constructor
 ·intro h; subst h; rfl
 ·intro h;refine GR ?_;exact List.eq_nil_of_length_eq_zero h
theorem Kf {N:Nat}:nb N=⟨#[]⟩↔N=0:=by
 rw [Fk,gy];exact ⟨Sa,fun h=>by rw [h,wz]⟩
theorem Kg:∀ {l m:List UInt8},l.length=m.length→Op.bytesLess l m=decide (dn l < dn m)
 | [],[],_=>by simp [Op.bytesLess,dn]
 | [],_::_,h=>by simp at h
 | _::_,[],h=>by simp at h
 | a::l,b::m,h=>by
  have h:l.length=m.length:=by simpa using h
  have ih:=Kg h;unfold Op.bytesLess;rw [ih,rF,rF,h];have h3:=rQ l;have h4:=rQ m;rw [h] at h3;rcases Nat.lt_trichotomy a.toNat b.toNat with dI | dI | dI
  ·have:a < b:=UInt8.lt_iff_toNat_lt.2 dI;have h5:(a.toNat+1)*C ^ m.length≤b.toNat*C ^ m.length:=Nat.mul_le_mul_right _ dI;rw [Nat.add_mul] at h5;have h6:a.toNat*C ^ m.length+dn l < b.toNat*C ^ m.length+dn m:=by omega
   simp [this,h6]
  ·have e:a=b:=UInt8.toNat_inj.1 dI;subst e;simp
  ·have:¬ a < b:=fun h=>by have:=UInt8.lt_iff_toNat_lt.1 h; omega
   have h5:(b.toNat+1)*C ^ m.length≤a.toNat*C ^ m.length:=Nat.mul_le_mul_right _ dI;rw [Nat.add_mul] at h5;have h6:¬ (a.toNat*C ^ m.length+dn l < b.toNat*C ^ m.length+dn m):=by omega
   have h7:¬ a=b:=fun e=>by subst e; omega
   simp [this,h6,h7]
theorem Vo {s t:ByteArray} (h:s.size=t.size):Op.bytesLess s.toList t.toList=decide (ab s < ab t):=by
 rw [ByteArray.toList_eq,ByteArray.toList_eq];exact Kg h
open Go
theorem r6 (a:Int) (k:Nat):a.fdiv (2 ^ k)=a / 2 ^ k:=Int.fdiv_eq_ediv_of_nonneg _ (Int.le_of_lt (Int.pow_pos (by decide)))
theorem Fl (b:BitVec 32):IntKind.u32.wrap (b.toNat:Int)=b.toNat:=db (by omega) (by have:=b.isLt; omega)
theorem Vp {w:Nat} (b:BitVec w):BitVec.ofInt w (b.toNat:Int)=b:=by
 rw [BitVec.ofInt_natCast,BitVec.ofNat_toNat]; simp
theorem WJ (b:BitVec 32):(b.toNat:Int) / 2147483648=if b.msb then 1 else 0:=by
 have h:=b.isLt;rw [BitVec.msb_eq_decide];by_cases h1:2 ^ (32 - 1)≤b.toNat
 ·simp [h1]; omega
 ·simp [h1]; omega
theorem toNat_ofInt32 (x:Nat) (h:x < 4294967296):(BitVec.ofInt 32 (x:Int)).toNat=x:=by
 rw [BitVec.ofInt_natCast,BitVec.toNat_ofNat]; exact Nat.mod_eq_of_lt h
theorem Ey (x:Nat) (h:x < 4294967296):(BitVec.ofInt 32 (x:Int)).msb=decide (2147483648≤x):=by
 rw [BitVec.msb_eq_decide,toNat_ofInt32 x h]
theorem SP (x y c:Nat) (hx:x < 4294967296) (hy:y < 4294967296) (hc:c≤1) (d:Nat) (hd:d=(x+2*4294967296 - y - c) % 4294967296) :
  (((BitVec.ofInt 32 (4294967295:Int) ^^^ BitVec.ofInt 32 (x:Int)) &&& BitVec.ofInt 32 (y:Int)) ||| ((BitVec.ofInt 32 (4294967295:Int) ^^^ (BitVec.ofInt 32 (x:Int) ^^^ BitVec.ofInt 32 (y:Int))) &&& BitVec.ofInt 32 (d:Int))).msb=decide (x < y+c):=by
 have cV:d < 4294967296:=by omega
 have ho:(BitVec.ofInt 32 (4294967295:Int)).msb=true:=by decide
 rw [BitVec.msb_or,BitVec.msb_and,BitVec.msb_and,BitVec.msb_xor,BitVec.msb_xor,BitVec.msb_xor,ho,Ey x hx,Ey y hy,Ey d cV];by_cases h1:2147483648≤x <;> by_cases J:2147483648≤y <;> by_cases h3:2147483648≤d <;> simp [h1,J,h3] <;> omega
theorem WK (x y:Nat) (hx:x < 4294967296) (hy:y < 4294967296):((BitVec.ofInt 64 ((x:Int)*4294967296) ||| BitVec.ofInt 64 (y:Int)).toNat:Int)=(x*4294967296+y:Nat):=by
 have e1:BitVec.ofInt 64 ((x:Int)*4294967296)=BitVec.ofNat 64 (x*4294967296):=by
  rw [← BitVec.ofInt_natCast]; congr 1
 rw [e1,BitVec.ofInt_natCast,BitVec.toNat_or,BitVec.toNat_ofNat,BitVec.toNat_ofNat,Nat.mod_eq_of_lt (by omega),Nat.mod_eq_of_lt (by omega)]
 have:=Nat.shiftLeft_add_eq_or_of_lt (i:=32) (b:=y) (by simpa using hy) x
 rw [Nat.shiftLeft_eq] at this;have J:(2:Nat) ^ 32=4294967296:=by decide
 rw [J] at this;rw [← this]
theorem dU (a:Int):a.fdiv (2 ^ min (Int.toNat 31) IntKind.u64.bits)=a / 2147483648:=by rw [r6]; rfl
theorem cf (a:Int):a.fdiv (2 ^ min (Int.toNat 32) IntKind.u64.bits)=a / 4294967296:=by rw [r6]; rfl
theorem dh (a:Int):a.fdiv (2 ^ min (Int.toNat 8) IntKind.u32.bits)=a / 256:=by rw [r6]; rfl
theorem dt (a:Int):a.fdiv (2 ^ min (Int.toNat 16) IntKind.u32.bits)=a / 65536:=by rw [r6]; rfl
theorem dB (a:Int):a.fdiv (2 ^ min (Int.toNat 24) IntKind.u32.bits)=a / 16777216:=by rw [r6]; rfl
theorem c5 (a:Int):a.fdiv (2 ^ min (Int.toNat 8) IntKind.i64.bits)=a / 256:=by rw [r6]; rfl
def Cq (x y c:Int):Int:=IntKind.u32.wrap (IntKind.u32.wrap (x - y) - c)
def GS (x y c:Int):Int:=(IntKind.u32.wrap ((BitVec.ofInt 32 (IntKind.u32.wrap ((BitVec.ofInt 32 (IntKind.u32.wrap ((BitVec.ofInt 32 (4294967295:Int) ^^^ BitVec.ofInt 32 x).toNat:Int)) &&& BitVec.ofInt 32 y).toNat:Int)) |||
 BitVec.ofInt 32 (IntKind.u32.wrap ((BitVec.ofInt 32 (IntKind.u32.wrap ((BitVec.ofInt 32 (4294967295:Int) ^^^ BitVec.ofInt 32 (IntKind.u32.wrap ((BitVec.ofInt 32 x ^^^ BitVec.ofInt 32 y).toNat:Int))).toNat:Int)) &&&
  BitVec.ofInt 32 (Cq x y c)).toNat:Int))).toNat:Int)).fdiv (2 ^ 31)
theorem LU {x y c:Nat} (hx:x < 4294967296) (hy:y < 4294967296) (hc:c≤1):Cq x y c=((x+2*4294967296 - y - c) % 4294967296:Nat):=by
 unfold Cq;rw [wx,wx]; omega
theorem Ue {x y c:Nat} (hx:x < 4294967296) (hy:y < 4294967296) (hc:c≤1):GS x y c=if x < y+c then 1 else 0:=by
 unfold GS;rw [LU hx hy hc];simp only [Fl,Vp,r6];rw [show (2:Int) ^ 31=2147483648 by decide,WJ,SP x y c hx hy hc _ rfl]
 simp
theorem WL {x k:Nat} (h1:2 ^ k≤x) (J:x < 2 ^ (k+1)):x.log2=k:=by
 have hx:x≠0:=by have:=Nat.pow_pos (n:=k) (show 0 < 2 by decide); omega
 have a1:=(Nat.log2_lt hx).2 J;have a2:=(Nat.le_log2 hx).2 h1;omega
def fa (x:Nat):Nat:=if x=0 then 0 else x.log2+1
theorem Gp (x:Nat):x < 2 ^ fa x:=by
 unfold fa
 split
 ·omega
 ·rename_i h; exact (Nat.log2_lt h).1 (Nat.lt_succ_self _)
theorem JX {x:Nat} (h:x≠0):2 ^ (fa x - 1)≤x:=by
 unfold fa;rw [if_neg h];exact (Nat.le_log2 h).1 (Nat.le_refl _)
theorem WM {x k:Nat} (h1:x < 2 ^ k) (J:k=0∨2 ^ (k - 1)≤x):fa x=k:=by
 rcases J with rfl | J
 ·have:x=0:=by simpa using h1
  subst this; rfl
 ·by_cases h0:k=0
  ·subst h0;have:x=0:=by simpa using h1
   subst this; rfl
  ·have hx:x≠0:=by have:=Nat.pow_pos (n:=k - 1) (show 0 < 2 by decide); omega
   unfold fa;rw [if_neg hx,WL J (by rw [show k - 1+1=k by omega]; exact h1)]
   omega
theorem Ba {x k:Nat} (h:2 ^ k≤x):fa x=k+fa (x / 2 ^ k):=by
 have hp:=Nat.pow_pos (n:=k) (show 0 < 2 by decide)
 have hq:x / 2 ^ k≠0:=by have:=Nat.div_pos h hp; omega
 have hb:0 < fa (x / 2 ^ k):=by unfold fa; rw [if_neg hq]; omega
 refine WM ?_ (.inr ?_)
 ·have:=Gp (x / 2 ^ k);rw [Nat.pow_add,Nat.mul_comm];exact (Nat.div_lt_iff_lt_mul hp).1 this
 ·have:=JX hq;rw [show k+fa (x / 2 ^ k) - 1=k+(fa (x / 2 ^ k) - 1) by omega,Nat.pow_add,Nat.mul_comm]
  exact (Nat.le_div_iff_mul_le hp).1 this
theorem dw (x y:Nat) (hx:x < 4294967296) (hy:y < 4294967296):IntKind.u64.wrap ((BitVec.ofInt IntKind.u64.bits ((x:Int)*4294967296) ||| BitVec.ofInt IntKind.u64.bits (y:Int)).toNat:Int)=(x:Int)*4294967296+y:=by
 have h:=WK x y hx hy;have:IntKind.u64.wrap ((BitVec.ofInt 64 ((x:Int)*4294967296) ||| BitVec.ofInt 64 (y:Int)).toNat:Int)=(x:Int)*4294967296+y:=by
  rw [h,bL (by omega) (by omega)]; omega
 exact this
theorem WN (x y:Nat) (hx:x < 36028797018963968) (hy:y < 256):((BitVec.ofInt 64 ((x:Int)*256) ||| BitVec.ofInt 64 (y:Int)).toNat:Int)=(x*256+y:Nat):=by
 have e1:BitVec.ofInt 64 ((x:Int)*256)=BitVec.ofNat 64 (x*256):=by
  rw [← BitVec.ofInt_natCast]; congr 1
 rw [e1,BitVec.ofInt_natCast,BitVec.toNat_or,BitVec.toNat_ofNat,BitVec.toNat_ofNat,Nat.mod_eq_of_lt (by omega),Nat.mod_eq_of_lt (by omega)]
 have:=Nat.shiftLeft_add_eq_or_of_lt (i:=8) (b:=y) (by simpa using hy) x
 rw [Nat.shiftLeft_eq] at this;have J:(2:Nat) ^ 8=256:=by decide
 rw [J] at this;rw [← this]
theorem dK (x y:Nat) (hx:x < 36028797018963968) (hy:y < 256):IntKind.i64.wrap ((BitVec.ofInt IntKind.i64.bits ((x:Int)*256) ||| BitVec.ofInt IntKind.i64.bits (y:Int)).toNat:Int)=(x:Int)*256+y:=by
 have h:=WN x y hx hy;have:IntKind.i64.wrap ((BitVec.ofInt 64 ((x:Int)*256) ||| BitVec.ofInt 64 (y:Int)).toNat:Int)=(x:Int)*256+y:=by
  rw [h,ay (by omega) (by omega)]; omega
 exact this
theorem toNat_cast (n:Nat):((n:Int)).toNat=n:=Int.toNat_natCast n
theorem WO {x:Nat} (h:x < 256):fa x≤8:=by
 unfold fa
 split
 ·omega
 ·rename_i h0; have:=(Nat.log2_lt h0).2 (show x < 2 ^ 8 from h); omega
theorem ME {x:Nat} (h:x < 4294967296):fa x≤32:=by
 unfold fa
 split
 ·omega
 ·rename_i h0; have:=(Nat.log2_lt h0).2 (show x < 2 ^ 32 from h); omega
theorem dT (c:Nat):uj c 0=c:=by
 unfold uj;cases h:decide (c=aO) with
 | true=>exact (of_decide_eq_true h).symm
 | false=>rfl
theorem toNat_0:Int.toNat 0=0:=rfl
theorem toNat_1:Int.toNat 1=1:=rfl
theorem GU (x y k:Nat) (hx:x < 2 ^ k):x ||| (y*2 ^ k)=x+y*2 ^ k:=by
 have:=Nat.shiftLeft_add_eq_or_of_lt hx y;rw [Nat.shiftLeft_eq] at this;rw [Nat.or_comm,← this,Nat.add_comm]
theorem SQ (x y e:Nat) (hx:x < 256 ^ e) (hy:y < 256) (he:e < 4):IntKind.u32.wrap ((BitVec.ofInt IntKind.u32.bits (x:Int) ||| BitVec.ofInt IntKind.u32.bits (IntKind.u32.wrap ((y:Int)*2 ^ (min (8*e) IntKind.u32.bits)))).toNat:Int)=((x+y*256 ^ e:Nat):Int):=by
 have hp:(256:Nat) ^ e=2 ^ (8*e):=by rw [show (256:Nat)=2 ^ 8 from rfl,← Nat.pow_mul]
 have al:x+y*2 ^ (8*e) < 4294967296:=by
  have h1:(y+1)*2 ^ (8*e)≤256*2 ^ (8*e):=Nat.mul_le_mul_right _ hy;have J:256*2 ^ (8*e)≤4294967296:=by
   have:2 ^ (8*e)≤2 ^ 24:=Nat.pow_le_pow_right (by decide) (by omega)
   omega
  rw [Nat.add_mul] at h1;rw [hp] at hx;omega
 have qN:x < 2 ^ (8*e):=by rw [← hp]; exact hx
 have e1:IntKind.u32.wrap ((y:Int)*2 ^ (min (8*e) 32))=((y*2 ^ (8*e):Nat):Int):=by
  rw [show min (8*e) 32=8*e by omega]
  have:((y*2 ^ (8*e):Nat):Int)=(y:Int)*2 ^ (8*e):=by simp
  rw [← this,db (by omega) (by omega)]
 have key:IntKind.u32.wrap ((BitVec.ofInt 32 (x:Int) ||| BitVec.ofInt 32 (IntKind.u32.wrap ((y:Int)*2 ^ (min (8*e) 32)))).toNat:Int)=((x+y*256 ^ e:Nat):Int):=by
  rw [e1,Fl,BitVec.toNat_or,toNat_ofInt32 _ (by omega),toNat_ofInt32 _ (by omega),GU _ _ _ qN,hp]
 exact key
theorem Oe {N n:Nat} (h:N < B ^ n) (J:n=0∨B ^ (n - 1)≤N):nl N=n:=by
 rcases J with rfl | J
 ·have:=jD h; omega
 ·have h3:=jD h;rcases Nat.lt_or_ge (nl N) n with h4 | h4
  ·have h5:B ^ nl N≤B ^ (n - 1):=Nat.pow_le_pow_right (by decide) (by omega)
   have:=bW N;omega
  ·omega
theorem Da (n:Nat):B ^ n=C ^ (4*n):=by rw [Nat.pow_mul]; rfl
theorem Of (N:Nat):nl N=(aT N+3) / 4:=by
 refine Oe ?_ ?_
 ·rw [Da];exact Nat.lt_of_lt_of_le (kU N) (Nat.pow_le_pow_right (by decide) (by omega))
 ·by_cases h:N=0
  ·left; subst h; rw [wz]
  ·right
   have:=Gn h;rw [Da];exact Nat.le_trans (Nat.pow_le_pow_right (by decide) (by omega)) (Rx h)
theorem Uf (N i:Nat):cF (N % C ^ i) (i / 4) (an (N % C ^ i) (i / 4)+N / C ^ i % C*256 ^ (i % 4))=N % C ^ (i+1)∧an (N % C ^ i) (i / 4) < 256 ^ (i % 4):=by
 have hB:B ^ (i / 4)*256 ^ (i % 4)=C ^ i:=by
  rw [Da,← Nat.pow_add]; congr 1; omega
 have al:N % C ^ i < C ^ i:=Nat.mod_lt _ (gO i);have hl:an (N % C ^ i) (i / 4) < 256 ^ (i % 4):=by
  have h1:N % C ^ i / B ^ (i / 4) < 256 ^ (i % 4):=(Nat.div_lt_iff_lt_mul (eE _)).2 (by rw [Nat.mul_comm,hB]; exact al)
  unfold an;exact Nat.lt_of_le_of_lt (Nat.mod_le _ _) h1
 refine ⟨?_,hl⟩;have h:=pH (N % C ^ i) (i / 4) (an (N % C ^ i) (i / 4)+N / C ^ i % C*256 ^ (i % 4));have e:N % C ^ (i+1)=N % C ^ i+C ^ i*(N / C ^ i % C):=by rw [Nat.pow_succ,Nat.mod_mul]
 have e2:N / C ^ i % C*256 ^ (i % 4)*B ^ (i / 4)=C ^ i*(N / C ^ i % C):=by
  rw [Nat.mul_assoc,Nat.mul_comm (256 ^ (i % 4)),hB,Nat.mul_comm]
 rw [Nat.add_mul,e2] at h;omega
theorem dM (a:Nat):((a:Int)).tdiv 4=((a / 4:Nat):Int):=rfl
theorem dY (a:Nat):((a:Int)).tmod 4=((a % 4:Nat):Int):=rfl
theorem dV (a:Nat):(8:Int)*(a:Int)=((8*a:Nat):Int):=by omega
theorem dZ {m:Nat} (h:0 < m):(m:Int) - 1=((m - 1:Nat):Int):=by omega
theorem ef (m:Nat):(m:Int)+1=((m+1:Nat):Int):=by omega
theorem eF {a b:Nat} (h:b≤a):(a:Int) - (b:Int)=((a - b:Nat):Int):=by omega
theorem eG (a b:Nat):(a:Int)+(b:Int)=((a+b:Nat):Int):=by omega
theorem eg (a:Nat):(8:Int)*(a:Int)=((8*a:Nat):Int):=by omega
theorem Vq {Q L m r:Nat} (hL:L < B) (hr:r < m):(Q*B+L) / C ^ (m+4 - 1 - r) % C=Q / C ^ (m - 1 - r) % C:=by
 have e:C ^ (m+4 - 1 - r)=B*C ^ (m - 1 - r):=by
  rw [show m+4 - 1 - r=4+(m - 1 - r) by omega,Nat.pow_add]; rfl
 rw [e,← Nat.div_div_eq_div_mul];have:(Q*B+L) / B=Q:=by rw [Nat.mul_comm,Nat.mul_add_div (by decide),Nat.div_eq_of_lt hL,Nat.add_zero]
 rw [this]
theorem Vr {Q L e:Nat} (he:e≤3):(Q*B+L) / C ^ e % C=L / C ^ e % C:=by
 have h:B=C ^ e*(C ^ (3 - e)*C):=by
  rw [← Nat.mul_assoc,← Nat.pow_add,← Nat.pow_succ,show (e+(3 - e)).succ=4 by omega]; rfl
 rw [show Q*B=C ^ e*(Q*C ^ (3 - e)*C) by rw [h,Nat.mul_comm Q,Nat.mul_assoc,Nat.mul_comm (C ^ (3 - e)*C) Q,Nat.mul_assoc Q]]
 rw [Nat.mul_add_div (gO _),Nat.mul_add_mod_self_right]
theorem Nt:∀ {n Y r:Nat} (h:r < n),(pr n Y)[r]?=some (UInt8.ofNat (Y / C ^ (n - 1 - r) % C))
 | n+1,Y,r,h=>by
  unfold pr;by_cases hr:r < n
  ·rw [List.getElem?_append_left (by rw [vY]; exact hr),Nt hr,Nat.div_div_eq_div_mul,← Nat.pow_succ']
   congr 5; omega
  ·have:r=n:=by omega
   subst this;rw [List.getElem?_append_right (by rw [vY]; exact Nat.le_refl _),vY]
   simp
theorem vZ {g:Nat→List Value} {m X:Nat} (h:∀ r,r < m→g r=[.int .u8 ((X / C ^ (m - 1 - r) % C:Nat):Int)]):(⟨⟨bytesOf g 0 m⟩⟩:ByteArray)=be m X:=by
 unfold be
 congr 2
 apply List.ext_getElem?;intro r;by_cases hr:r < m
 ·rw [Nt hr];unfold bytesOf;rw [List.getElem?_map,List.getElem?_range hr];simp only [Option.map_some,Nat.zero_add,h r hr,toNat_cast]
 ·rw [List.getElem?_eq_none (l:=pr m X) (by rw [vY]; omega),List.getElem?_eq_none (by simp [bytesOf]; omega)]
theorem dv (a:Int):a*2 ^ min (Int.toNat 32) IntKind.u64.bits=a*4294967296:=rfl
theorem dW (a:Int):a*2 ^ min (Int.toNat 8) IntKind.i64.bits=a*256:=rfl
theorem OU (L:Nat):IntKind.u8.wrap ((L:Int) / 16777216)=((L / C ^ 3 % C:Nat):Int):=by rw [kQ]; rfl
theorem OV (L:Nat):IntKind.u8.wrap ((L:Int) / 65536)=((L / C ^ 2 % C:Nat):Int):=by rw [kQ]; rfl
theorem PB (L:Nat):IntKind.u8.wrap ((L:Int) / 256)=((L / C ^ 1 % C:Nat):Int):=by rw [kQ]; rfl
theorem PC (L:Nat):IntKind.u8.wrap (L:Int)=((L / C ^ 0 % C:Nat):Int):=by rw [kQ,Nat.pow_zero,Nat.div_one]; rfl
theorem K8 {N i m:Nat} {g:Nat→List Value} (hi:0 < i) (hg:∀ r,r < m→g r=[.int .u8 ((N / B ^ i / C ^ (m - 1 - r) % C:Nat):Int)]) {L0 L1 L2 L3:List Value}
  (h0:L0=[.int .u8 ((an N (i - 1) / C ^ 3 % C:Nat):Int)]) (h1:L1=[.int .u8 ((an N (i - 1) / C ^ 2 % C:Nat):Int)]) (J:L2=[.int .u8 ((an N (i - 1) / C ^ 1 % C:Nat):Int)]) (h3:L3=[.int .u8 ((an N (i - 1) / C ^ 0 % C:Nat):Int)]) :
  ∀ r,r < m+4→iA g m (fun j=>[L0,L1,L2,L3].getD j []) r=[.int .u8 ((N / B ^ (i - 1) / C ^ (m+4 - 1 - r) % C:Nat):Int)]:=by
 intro r hr;have hd:=pN N (i - 1);rw [show i - 1+1=i by omega] at hd
 have hd:N / B ^ (i - 1)=N / B ^ i*B+an N (i - 1):=by rw [hd,Nat.add_comm,Nat.mul_comm]
 by_cases h:r < m
 ·rw [ja h,hg r h,hd,Vq (cI _ _) h]
 ·rw [gm (by omega),hd,Vr (by omega)]
  have:r - m=0∨r - m=1∨r - m=2∨r - m=3:=by omega
  rcases this with e | e | e | e <;> rw [e]
  ·rw [show m+4 - 1 - r=3 by omega]; exact h0
  ·rw [show m+4 - 1 - r=2 by omega]; exact h1
  ·rw [show m+4 - 1 - r=1 by omega]; exact J
  ·rw [show m+4 - 1 - r=0 by omega]; exact h3
theorem AZ {Y i d:Nat} (hY:Y < B ^ i):cF Y i d=Y+d*B ^ i:=by
 have h:=pH Y i d;rw [tU hY (Nat.le_refl _),Nat.zero_mul,Nat.add_zero] at h;exact h
theorem Sc {x y b d b' P K Y u v:Nat} (hY:Y < P) (he:u+b*P=Y+v) (hd:x+b'*K=y+b+d) (dJ:d < K):Y+d*P < P*K∧u+x*P+b'*(P*K)=Y+d*P+(v+y*P):=by
 have h1:(x+b'*K)*P=(y+b+d)*P:=by rw [hd]
 rw [Nat.add_mul,Nat.add_mul,Nat.add_mul] at h1;have J:b'*(P*K)=b'*K*P:=by rw [Nat.mul_comm P,Nat.mul_assoc]
 have h3:(d+1)*P≤P*K:=by rw [Nat.mul_comm P]; exact Nat.mul_le_mul_right _ dJ
 rw [Nat.add_mul,Nat.one_mul] at h3;rw [J];exact ⟨by omega,by omega⟩
theorem SR {A D Y b i d b':Nat} (hY:Y < B ^ i) (he:A % B ^ i+b*B ^ i=Y+D % B ^ i) (hd:an A i+b'*B=an D i+b+d) (dJ:d < B) :
  cF Y i d < B ^ (i+1)∧A % B ^ (i+1)+b'*B ^ (i+1)=cF Y i d+D % B ^ (i+1):=by
 rw [AZ hY,mod_succ A i,mod_succ D i,Nat.pow_succ];exact Sc hY he hd dJ
theorem lS {Z j d m:Nat} (hZ:Z < B ^ m) (hj:j < m) (hd:d < B):cF Z j d < B ^ m:=by
 have h1:(cF Z j d) / B ^ m=0:=by
  have e:B ^ m=B ^ j*(B*B ^ (m - j - 1)):=by
   rw [← Nat.mul_assoc,← Nat.pow_succ,← Nat.pow_add,show j+1+(m - j - 1)=m by omega]
  have ha:Z % B ^ j < B ^ j:=Nat.mod_lt _ (eE j);unfold cF;rw [e,← Nat.div_div_eq_div_mul,ov ha,← Nat.div_div_eq_div_mul,ov hd,Nat.div_div_eq_div_mul,← Nat.pow_add,show j+1+(m - j - 1)=m by omega]
  exact Nat.div_eq_of_lt hZ
 rcases Nat.lt_or_ge (cF Z j d) (B ^ m) with h | h
 ·exact h
 ·have:=Nat.div_pos h (eE m);omega
theorem KB {Z Z' l c x d P Q K t Y v:Nat} (he:Z+c*(P*Q)=Y+x*v*P) (hs:Z'+l*(P*Q)=Z+t % K*(P*Q)) (ht:t=c+(x*d+l)) :
  Z'+t / K*(P*Q*K)=Y+x*(v+d*Q)*P:=by
 have h1:=Nat.mod_add_div t K;have J:(t % K+K*(t / K))*(P*Q)=(c+(x*d+l))*(P*Q):=by rw [h1,ht]
 rw [Nat.add_mul,Nat.add_mul,Nat.add_mul] at J;have e1:K*(t / K)*(P*Q)=t / K*(P*Q*K):=by
  rw [Nat.mul_comm K,Nat.mul_assoc,Nat.mul_comm K]
 have e2:x*(v+d*Q)*P=x*v*P+x*d*(P*Q):=by
  rw [Nat.mul_add,Nat.add_mul,← Nat.mul_assoc x d Q,Nat.mul_assoc (x*d),Nat.mul_comm Q P]
 rw [e1] at J;rw [e2];generalize t / K*(P*Q*K)=a1 at *;generalize t % K*(P*Q)=a2 at *;generalize c*(P*Q)=a3 at *;generalize x*d*(P*Q)=a4 at *;generalize l*(P*Q)=a5 at *;generalize x*v*P=a6 at *;omega
theorem KC {c x d l K t:Nat} (hc:c < K) (hx:x < K) (hd:d < K) (hl:l < K) (ht:t=c+(x*d+l)):t / K < K∧t < K*K:=by
 have h1:(x+1)*(d+1)≤K*K:=Nat.mul_le_mul hx hd;have J:t < K*K:=by
  rw [Nat.add_mul,Nat.mul_add] at h1;by_cases hk:K=0
  ·omega
  ·have h3:x*d≤(K - 1)*(K - 1):=Nat.mul_le_mul (by omega) (by omega)
   obtain ⟨k,rfl⟩:∃ k,K=k+1:=⟨K - 1,by omega⟩
   rw [Nat.add_sub_cancel] at h3;have e:(k+1)*(k+1)=k*k+k+k+1:=by rw [Nat.add_mul,Nat.mul_add]; omega
   omega
 exact ⟨(Nat.div_lt_iff_lt_mul (by omega)).2 J,J⟩
theorem SS {Z c x D i k t Y:Nat} (he:Z+c*B ^ (i+k)=Y+x*(D % B ^ k)*B ^ i) (ht:t=c+(x*an D k+an Z (i+k))) :
  cF Z (i+k) (t % B)+t / B*B ^ (i+(k+1))=Y+x*(D % B ^ (k+1))*B ^ i:=by
 have hs:=pH Z (i+k) (t % B);rw [mod_succ D k,← Nat.add_assoc,Nat.pow_succ];rw [Nat.pow_add] at he hs ⊢;exact KB he hs ht
theorem Ug {A D Y Z c i n:Nat} (hY:Y=A % B ^ i*D) (hD:D < B ^ n) (hZ:Z < B ^ (i+n)) (he:Z+c*B ^ (i+n)=Y+an A i*(D % B ^ n)*B ^ i) :
  cF Z (i+n) c=A % B ^ (i+1)*D:=by
 rw [AZ hZ,he,Nat.mod_eq_of_lt hD,hY,mod_succ,Nat.add_mul,Nat.mul_assoc (an A i),Nat.mul_comm D,← Nat.mul_assoc]
theorem Uh {c x d l t:Nat} (hc:c < B) (hx:x < B) (hd:d < B) (hl:l < B) (ht:t=c+(x*d+l)) :
  IntKind.u64.wrap ((c:Int)+IntKind.u64.wrap (IntKind.u64.wrap (IntKind.u64.wrap (x:Int)*IntKind.u64.wrap (d:Int))+IntKind.u64.wrap (l:Int)))=(t:Int):=by
 have hB:B=4294967296:=rfl;have h:=(KC hc hx hd hl ht).2;have hm:((x:Int)*(d:Int))=((x*d:Nat):Int):=by simp
 rw [bL (x:=(x:Int)) (by omega) (by omega),bL (x:=(d:Int)) (by omega) (by omega),bL (x:=(l:Int)) (by omega) (by omega),hm]
 generalize x*d=m at *;rw [hB] at h;rw [bL (x:=(m:Int)) (by omega) (by omega),bL (x:=(m:Int)+(l:Int)) (by omega) (by omega),bL (by omega) (by omega)]
 omega
theorem eJ (t:Nat):IntKind.u32.wrap (t:Int)=((t % B:Nat):Int):=by rw [wx]; rfl
theorem jE (t:Nat):(t:Int) / 4294967296=((t / B:Nat):Int):=rfl
open Go
def u32 (n:Nat):Value:=.int .u32 n
def i64 (n:Int):Value:=.int .i64 n
def uq:bF:={ ι:=Nat × Nat × Nat,args:=fun i=>[.int .u32 i.1,.int .u32 i.2.1,.int .u32 i.2.2],pre:=fun i=>i.1 < 4294967296∧i.2.1 < 4294967296∧i.2.2≤1,val:=fun i=>.tuple ⟨[.int .u32 ((i.1+i.2.1+i.2.2) % 4294967296:Nat),.int .u32 ((i.1+i.2.1+i.2.2) / 4294967296:Nat)]⟩ }
def kV:bF:={ ι:=Nat × Nat × Nat,args:=fun i=>[.int .u32 i.1,.int .u32 i.2.1,.int .u32 i.2.2],pre:=fun i=>i.1 < 4294967296∧i.2.1 < 4294967296∧i.2.2≤1,val:=fun i=>.tuple ⟨[.int .u32 ((i.1+2*4294967296 - i.2.1 - i.2.2) % 4294967296:Nat),.int .u32 (if i.1 < i.2.1+i.2.2 then 1 else 0:Nat)]⟩ }
def Cr:bF:={ ι:=Nat × Nat × Nat,args:=fun i=>[.int .u32 i.1,.int .u32 i.2.1,.int .u32 i.2.2],pre:=fun i=>i.1 < i.2.2∧i.2.1 < 4294967296∧i.2.2 < 4294967296,val:=fun i=>.tuple ⟨[.int .u32 ((i.1*4294967296+i.2.1) / i.2.2:Nat),.int .u32 ((i.1*4294967296+i.2.1) % i.2.2:Nat)]⟩ }
def GV:bF:={ ι:=Nat,args:=fun x=>[.int .u32 x],pre:=fun x=>x < 4294967296,val:=fun x=>.int .i64 (fa x:Nat) }
def CL:bF:={ ι:=Nat,args:=fun x=>[.int .u32 x],pre:=fun x=>x < 4294967296,val:=fun x=>.int .i64 (32 - fa x:Nat) }
def An:Nat:=1099511627776
def kv:bF:={ ι:=ByteArray,args:=fun s=>[.string s],pre:=fun s=>s.size≤1099511627776,val:=fun s=>.string (nb (ab s)) }
abbrev LV:=Option (Nat × Nat × Nat)
def LV.val:LV→Value
 | none=>.slice none 0 0
 | some (n,_,c)=>.slice (some ⟨0,0,none⟩) n c
def LV.ae:LV→List aj
 | none=>[]
 | some (n,N,_)=>[.flat false n 1 (bo N)]
def LV.num:LV→Nat
 | none=>0
 | some (_,N,_)=>N
def LV.ok:LV→Prop
 | none=>True
 | some (n,N,_)=>N < 4294967296 ^ n∧n≤274877906944
def LV.cut:LV→Value
 | none=>.slice none 0 0
 | some (_,N,c)=>.slice (some ⟨0,0,none⟩) (nl N) c
def r8:cG:={ ι:=LV,args:=fun i=>[i.val],ae:=LV.ae,pre:=LV.ok,val:=LV.cut,new:=fun _=>none }
def yN:cG:={ ι:=LV,args:=fun i=>[i.val],ae:=LV.ae,pre:=LV.ok,val:=fun i=>.string (nb i.num),new:=fun _=>none }
def uI:cG:={ ι:=ByteArray,args:=fun s=>[.string s],ae:=fun _=>[],pre:=fun s=>s.size≤1099511627776,val:=fun s=>.slice (some ⟨0,0,none⟩) (nl (ab s)) aO,new:=fun s=>some (.flat false (nl (ab s)) 1 (bo (ab s))) }
def uJ:cG:={ ι:=Bool × LV,args:=fun i=>[.bool i.1,i.2.val],ae:=fun i=>i.2.ae,pre:=fun i=>i.2.ok,val:=fun i=>.agg ⟨[.bool (i.1 && i.2.num != 0),.string (nb i.2.num)]⟩,new:=fun _=>none }
def two (A ca D cd:Nat):List Value:=[.slice (some ⟨0,0,none⟩) (nl A) ca,.slice (some ⟨1,0,none⟩) (nl D) cd]
def j9 (A D:Nat):List aj:=[.flat false (nl A) 1 (bo A),.flat false (nl D) 1 (bo D)]
abbrev I2:=Nat × Nat × Nat × Nat
def yO (i:I2):Prop:=nl i.1≤137438953472∧nl i.2.2.1≤137438953472
def cL (A D:Nat):Int:=if A < D then -1 else if D < A then 1 else 0
def wA:cG:={ ι:=I2,args:=fun i=>two i.1 i.2.1 i.2.2.1 i.2.2.2,ae:=fun i=>j9 i.1 i.2.2.1,pre:=yO,val:=fun i=>.int .i64 (cL i.1 i.2.2.1),new:=fun _=>none }
def kI (id N:Nat):Value:=.slice (some ⟨id,0,none⟩) (nl N) aO
def dN (N:Nat):aj:=.flat false (nl N) 1 (bo N)
def CM:cG:={ ι:=I2,args:=fun i=>two i.1 i.2.1 i.2.2.1 i.2.2.2,ae:=fun i=>j9 i.1 i.2.2.1,pre:=yO,val:=fun i=>kI 2 (i.1+i.2.2.1),new:=fun i=>some (dN (i.1+i.2.2.1)) }
def Cs:cG:={ ι:=I2,args:=fun i=>two i.1 i.2.1 i.2.2.1 i.2.2.2,ae:=fun i=>j9 i.1 i.2.2.1,pre:=fun i=>yO i∧i.2.2.1≤i.1,val:=fun i=>kI 2 (i.1 - i.2.2.1),new:=fun i=>some (dN (i.1 - i.2.2.1)) }
def Ct:cG:={ ι:=I2,args:=fun i=>two i.1 i.2.1 i.2.2.1 i.2.2.2,ae:=fun i=>j9 i.1 i.2.2.1,pre:=yO,val:=fun i=>kI 2 (i.1*i.2.2.1),new:=fun i=>some (dN (i.1*i.2.2.1)) }
open Go
theorem K9 {Y c P K a d x y t:Nat} (he:Y+c*P=a+d) (ht:t=c+x+y):Y+t % K*P+t / K*(P*K)=(a+x*P)+(d+y*P):=by
 have h:=Nat.mod_add_div t K;have e1:t*P=t % K*P+t / K*(P*K):=by
  calc t*P=(t % K+K*(t / K))*P:=by rw [h]
   _=t % K*P+t / K*(P*K):=by rw [Nat.add_mul,Nat.mul_comm K,Nat.mul_assoc,Nat.mul_comm K P]
 have e2:t*P=c*P+x*P+y*P:=by rw [ht,Nat.add_mul,Nat.add_mul]
 omega
theorem LW {X D Y c i t:Nat} (he:Y+c*B ^ i=X % B ^ i+D % B ^ i) (ht:t=c+an X i+an D i) :
  Y+t % B*B ^ i+t / B*B ^ (i+1)=X % B ^ (i+1)+D % B ^ (i+1):=by
 rw [mod_succ X i,mod_succ D i,Nat.pow_succ];exact K9 he ht
theorem v5 {Y d i:Nat} (hY:Y < B ^ i) (hd:d < B):Y+d*B ^ i < B ^ (i+1):=by
 have h:(d+1)*B ^ i≤B*B ^ i:=Nat.mul_le_mul_right _ hd;rw [Nat.pow_succ,Nat.mul_comm (B ^ i) B];rw [Nat.add_mul] at h;omega
theorem Vs {Y d i:Nat} (hY:Y < B ^ i) (hd:d < B) {r:Nat} (hr:r < i+1):an (Y+d*B ^ i) r=if r < i then an Y r else d:=by
 rw [← AZ hY,FJ hd]
 split <;> split <;> first | rfl | omega
theorem BX {Y d i:Nat} (hY:Y < B ^ i) (hd:d < B) {g:Nat→List Value} (hg:∀ r,r < i→g r=bo Y r) :
  ∀ r,r < i+1→iA g i (fun j=>[[Value.int .u32 (d:Nat)]].getD j []) r=bo (Y+d*B ^ i) r:=by
 intro r hr;have h:=Vs hY hd hr;by_cases h1:r < i
 ·rw [ja h1,hg r h1];rw [if_pos h1] at h;simp [bo,h]
 ·rw [gm (by omega),show r - i=0 by omega]
  rw [if_neg h1] at h;simp [bo,h]
theorem BC {a b:Nat} (ha:a < 4611686018427387904) (hb:b < 4611686018427387904):IntKind.u64.wrap ((a:Int)+IntKind.u64.wrap (b:Int))=((a+b:Nat):Int):=by
 rw [bL (x:=(b:Int)) (by omega) (by omega),bL (by omega) (by omega)]; omega
open Go
theorem La {A d i t:Nat} (hd:0 < d) (ht:t=A / B ^ (i+1) % d*B+an A i) :
  A / B ^ i % d=t % d∧A / B ^ i / d=A / B ^ (i+1) / d*B+t / d:=by
 have h:=pN A i;have J:=Nat.mod_add_div (A / B ^ (i+1)) d;have e:A / B ^ i=t+d*(A / B ^ (i+1) / d*B):=by
  rw [h,ht];have:B*(A / B ^ (i+1))=B*(A / B ^ (i+1) % d)+d*(A / B ^ (i+1) / d*B):=by
   conv=>lhs; rw [← J]
   rw [Nat.mul_add,Nat.mul_comm (A / B ^ (i+1) / d) B,Nat.mul_left_comm]
  rw [this,Nat.mul_comm B (A / B ^ (i+1) % d)];omega
 constructor
 ·rw [e,Nat.add_mul_mod_self_left]
 ·rw [e,Nat.add_mul_div_left _ _ hd]; omega
theorem Kh (K i:Nat):an (K*B ^ (i+1)) i=0:=by
 unfold an;rw [Nat.pow_succ,Nat.mul_comm (B ^ i),← Nat.mul_assoc,Nat.mul_div_cancel _ (eE i)];exact Nat.mul_mod_left _ _
theorem D5 {Y i d:Nat} (h:an Y i=0):cF Y i d=Y+d*B ^ i:=by
 have:=pH Y i d;rw [h] at this;omega
theorem Ui {A d i t:Nat} (hd:0 < d) (ht:t=A / B ^ (i+1) % d*B+an A i):cF (A / B ^ (i+1) / d*B ^ (i+1)) i (t / d)=A / B ^ i / d*B ^ i:=by
 rw [D5 (Kh _ _),(La hd ht).2,Nat.pow_succ,Nat.add_mul,Nat.mul_assoc,Nat.mul_comm B]
theorem Vt {A d i t:Nat} (hd:0 < d) (ht:t=A / B ^ (i+1) % d*B+an A i):t / d < B:=by
 have h1:=Nat.mod_lt (A / B ^ (i+1)) hd;have J:=cI A i;refine (Nat.div_lt_iff_lt_mul hd).2 ?_;have h3:(A / B ^ (i+1) % d+1)*B≤d*B:=Nat.mul_le_mul_right _ h1;rw [Nat.mul_comm d B] at h3;rw [Nat.add_mul] at h3;omega
theorem wB {s:Nat} (h:s≤31):2 ^ s≤2147483648:=Nat.le_trans (Nat.pow_le_pow_right (by decide) h) (by decide:2 ^ 31≤2147483648)
theorem WQ {s l:Nat} (hs:s≤31) (hl:l < B):IntKind.u64.wrap ((l:Int)*2 ^ min s IntKind.u64.bits)=((l*2 ^ s:Nat):Int):=by
 have h:=wB hs;have e:min s IntKind.u64.bits=s:=by show min s 64=s; omega
 rw [e];have J:l*2 ^ s≤4294967296*2147483648:=Nat.mul_le_mul (Nat.le_of_lt hl) h;have:((l*2 ^ s:Nat):Int)=(l:Int)*2 ^ s:=by simp
 rw [← this,bL (by omega) (by omega)]
theorem Nv {s l:Nat} (hs:s≤31):(l:Int).fdiv (2 ^ min s IntKind.u64.bits)=((l / 2 ^ s:Nat):Int):=by
 have e:min s IntKind.u64.bits=s:=by show min s 64=s; omega
 rw [e,r6];simp
theorem ZD {u l s:Nat} (hs:s≤31) (hu:u < 2 ^ s):IntKind.u32.wrap ((BitVec.ofInt IntKind.u32.bits (u:Int) ||| BitVec.ofInt IntKind.u32.bits ((l*2 ^ s % B:Nat):Int)).toNat:Int)=((u+l*2 ^ s % B:Nat):Int):=by
 have h:=wB hs;have hv:l*2 ^ s % B < 4294967296:=Nat.mod_lt _ (by decide)
 have e:l*2 ^ s % B=(l % 2 ^ (32 - s))*2 ^ s:=by
  have:B=2 ^ (32 - s)*2 ^ s:=by rw [← Nat.pow_add,show 32 - s+s=32 by omega]
  rw [this,Nat.mul_mod_mul_right]
 have key:IntKind.u32.wrap ((BitVec.ofInt 32 (u:Int) ||| BitVec.ofInt 32 ((l*2 ^ s % B:Nat):Int)).toNat:Int)=((u+l*2 ^ s % B:Nat):Int):=by
  rw [Fl,BitVec.toNat_or,toNat_ofInt32 _ (by omega),toNat_ofInt32 _ hv,e,GU _ _ _ hu]
 exact key
theorem OW {u l s:Nat} (hs:s≤31) (hu:u < 2 ^ s):u+l*2 ^ s % B < B:=by
 have h:=wB hs;have hv:l*2 ^ s % B < 2 ^ 32:=Nat.mod_lt _ (by decide)
 have e:l*2 ^ s % B=(l % 2 ^ (32 - s))*2 ^ s:=by
  have:B=2 ^ (32 - s)*2 ^ s:=by rw [← Nat.pow_add,show 32 - s+s=32 by omega]
  rw [this,Nat.mul_mod_mul_right]
 rw [e] at hv ⊢;rw [← GU _ _ _ hu];exact Nat.or_lt_two_pow (n:=32) (Nat.lt_of_lt_of_le hu (by omega)) hv
theorem Lb {A s i:Nat}:an (A % B ^ i*2 ^ s) i < 2 ^ s:=by
 refine Nat.lt_of_le_of_lt (Nat.mod_le _ _) ?_;refine (Nat.div_lt_iff_lt_mul (eE i)).2 ?_;rw [Nat.mul_comm];exact Nat.mul_lt_mul_of_pos_left (Nat.mod_lt _ (eE i)) (Nat.pow_pos (by decide))
theorem Vu {A s i:Nat} (hs:s≤31):A % B ^ i*2 ^ s < B ^ (i+1):=by
 have h:=wB hs;rw [Nat.pow_succ];exact Nat.mul_lt_mul_of_lt_of_le (Nat.mod_lt _ (eE i)) (by show _≤4294967296; omega) (by decide)
theorem SU {A s i:Nat} (hs:s≤31):cF (cF (A % B ^ i*2 ^ s) i (an (A % B ^ i*2 ^ s) i+an A i*2 ^ s % B)) (i+1) (an A i*2 ^ s / B)=A % B ^ (i+1)*2 ^ s:=by
 have al:=Vu (A:=A) (i:=i) hs;have Jj:=OW (l:=an A i) hs (Lb (A:=A) (s:=s) (i:=i));have h1:=pH (A % B ^ i*2 ^ s) i (an (A % B ^ i*2 ^ s) i+an A i*2 ^ s % B);rw [Nat.add_mul] at h1;have e1:cF (A % B ^ i*2 ^ s) i (an (A % B ^ i*2 ^ s) i+an A i*2 ^ s % B)=A % B ^ i*2 ^ s+an A i*2 ^ s % B*B ^ i:=by omega
 have J:an (cF (A % B ^ i*2 ^ s) i (an (A % B ^ i*2 ^ s) i+an A i*2 ^ s % B)) (i+1)=0:=by
  rw [FJ Jj,if_neg (by omega)]
  exact tU al (Nat.le_refl _)
 rw [D5 J,e1,mod_succ,Nat.add_mul,Nat.pow_succ];have h3:=Nat.mod_add_div (an A i*2 ^ s) B;have h4:an A i*B ^ i*2 ^ s=(an A i*2 ^ s % B+B*(an A i*2 ^ s / B))*B ^ i:=by rw [h3,Nat.mul_right_comm]
 rw [h4,Nat.add_mul,Nat.add_assoc]
 congr 1
 rw [Nat.mul_comm (B ^ i) B,← Nat.mul_assoc,Nat.mul_comm B (an A i*2 ^ s / B)]
theorem RK {A s i:Nat} (hs:s≤31):an (A / 2 ^ s) i=(an A i+an A (i+1)*B) / 2 ^ s % B:=by
 obtain ⟨w,hw⟩:∃ w,w=an A i+an A (i+1)*B:=⟨_,rfl⟩;have e:A / B ^ i=w+(B*B)*(A / B ^ (i+1+1)):=by
  rw [pN A i,pN A (i+1),Nat.mul_add,Nat.mul_comm B (an A (i+1)),Nat.mul_assoc,hw,← Nat.add_assoc]
 rw [← hw];show A / 2 ^ s / B ^ i % B=_
 rw [Nat.div_div_eq_div_mul,Nat.mul_comm (2 ^ s),← Nat.div_div_eq_div_mul,e];have hB:B=2 ^ s*2 ^ (32 - s):=by rw [← Nat.pow_add,show s+(32 - s)=32 by omega]
 have:B*B*(A / B ^ (i+1+1))=2 ^ s*(B*(2 ^ (32 - s)*(A / B ^ (i+1+1)))):=by
  conv=>lhs; rw [Nat.mul_assoc]; lhs; rw [hB]
  rw [Nat.mul_assoc,Nat.mul_left_comm (2 ^ (32 - s)) B]
 rw [this,Nat.add_mul_div_left _ _ (Nat.pow_pos (by decide)),Nat.add_mul_mod_self_left]
theorem Vv {x y:Nat} (hx:x < 4294967296) (hy:y < 4294967296):IntKind.u64.wrap ((BitVec.ofInt IntKind.u64.bits (y:Int) ||| BitVec.ofInt IntKind.u64.bits ((x:Int)*4294967296)).toNat:Int)=((y+x*B:Nat):Int):=by
 rw [BitVec.or_comm,dw x y hx hy];show _=(((y+x*4294967296:Nat)):Int)
 omega
theorem Uj {W D P q:Nat} (hD:0 < D) (hP:0 < P) (h:W / P < q*(D / P)):W / D < q:=by
 refine (Nat.div_lt_iff_lt_mul hD).2 ?_;have h1:W < (W / P+1)*P:=by
  rw [Nat.mul_comm]; exact Nat.lt_mul_div_succ W hP
 have J:(W / P+1)*P≤q*(D / P)*P:=Nat.mul_le_mul_right _ h;have h3:q*(D / P)*P≤q*D:=by
  rw [Nat.mul_assoc]; exact Nat.mul_le_mul_left _ (Nat.div_mul_le_self _ _)
 omega
theorem SV {W D P q K:Nat} (hP:0 < P) (h:q*(D / P)≤W / P) (hq:q≤K) (hK:K*P≤D):q≤W / D+1:=by
 rcases Nat.eq_zero_or_pos q with h0 | h0
 ·rw [h0]; exact Nat.zero_le _
 by_cases hD:D=0
 ·have hK0:K*P=0:=by omega
  rcases Nat.mul_eq_zero.1 hK0 with h | h <;> omega
 have h1:D < (D / P+1)*P:=by
  rw [Nat.mul_comm]; exact Nat.lt_mul_div_succ D hP
 have J:q*D < q*((D / P+1)*P):=Nat.mul_lt_mul_of_pos_left h1 h0;have e2:q*((D / P+1)*P)=q*(D / P)*P+q*P:=by rw [Nat.add_mul,Nat.mul_add,Nat.one_mul,Nat.mul_assoc]
 have h3:q*(D / P)*P≤W / P*P:=Nat.mul_le_mul_right _ h;have h4:W / P*P≤W:=Nat.div_mul_le_self _ _;have h5:q*P≤K*P:=Nat.mul_le_mul_right _ hq;have h6:q*D < W+D:=by omega
 have h7:(q - 1)*D≤W:=by
  rw [Nat.sub_mul,Nat.one_mul]; omega
 have:=(Nat.le_div_iff_mul_le (by omega:0 < D)).2 h7
 omega
theorem FL (X j k:Nat):an (X / B ^ j) k=an X (j+k):=by
 unfold an;rw [Nat.div_div_eq_div_mul,← Nat.pow_add]
theorem yF {W k:Nat} (h:W < B ^ (k+1)):an W k=W / B ^ k:=by
 unfold an;refine Nat.mod_eq_of_lt ((Nat.div_lt_iff_lt_mul (eE k)).2 ?_);rw [Nat.mul_comm,← Nat.pow_succ]; exact h
theorem adN {W k:Nat} (h:W < B ^ (k+2)):W / B ^ k=an W (k+1)*B+an W k:=by
 rw [pN W k,← yF h,Nat.mul_comm,Nat.add_comm]
theorem MF {q d1 d0 r w0 K top:Nat} (he:q*d1+r=top):(q*(d1*K+d0)≤top*K+w0↔q*d0≤r*K+w0):=by
 have e:top*K=q*(d1*K)+r*K:=by rw [← he,Nat.add_mul,Nat.mul_assoc]
 rw [Nat.mul_add,e];omega
theorem Lc {Z Z' v P l d t low c' c b b' x q X v' K:Nat} (he:Z+v=X+(b+c)*P) (hs:Z'+l*P=Z+d*P) (ht:t=c+q*x) (q8:t=low+K*c') (hd:l+b'*K=low+b+d) (hv:v'=v+q*x*P) :
  Z'+v'=X+(b'+c')*(P*K):=by
 have e1:t*P=c*P+q*x*P:=by rw [ht,Nat.add_mul]
 have e2:t*P=low*P+c'*(P*K):=by rw [q8,Nat.add_mul,Nat.mul_comm K,Nat.mul_assoc,Nat.mul_comm K P]
 have e3:l*P+b'*(P*K)=low*P+b*P+d*P:=by
  have:=congrArg (·*P) hd;simp only [Nat.add_mul] at this;rw [Nat.mul_assoc b' K P,Nat.mul_comm K P] at this;exact this
 rw [Nat.add_mul] at he ⊢;omega
theorem Bj {X Z D q c b b' i j t d:Nat} (he:Z+q*(D % B ^ i)*B ^ j=X+(b+c)*B ^ (j+i)) (ht:t=c+q*an D i) (hd:an Z (j+i)+b'*B=t % B+b+d) :
  cF Z (j+i) d+q*(D % B ^ (i+1))*B ^ j=X+(b'+t / B)*B ^ (j+(i+1)):=by
 have ep:B ^ (j+(i+1))=B ^ (j+i)*B:=rfl;rw [ep];refine Lc he (pH Z (j+i) d) ht (Nat.mod_add_div t B).symm hd ?_;rw [mod_succ,Nat.mul_add,Nat.add_mul,Nat.pow_add,← Nat.mul_assoc q (an D i),Nat.mul_comm (B ^ j) (B ^ i),Nat.mul_assoc (q*an D i)]
theorem Bk {X Z D q c b b' n j d:Nat} (hD:D < B ^ n) (hc:c < B) (he:Z+q*(D % B ^ n)*B ^ j=X+(b+c)*B ^ (j+n)) (hd:an Z (j+n)+b'*B=c+b+d) :
  cF Z (j+n) d+q*(D*B ^ j)=X+b'*B ^ (j+n+1):=by
 rw [Nat.mod_eq_of_lt hD] at he;have:=Lc (K:=B) (x:=0) (t:=c) (c':=0) (low:=c) (q:=q) (v':=q*D*B ^ j) he (pH Z (j+n) d) (by omega) (by omega) hd (by omega)
 rw [← Nat.mul_assoc,this,Nat.pow_succ]
 rfl
theorem SW {Z Z' v P l c x t Y v' K:Nat} (he:Z+c*P=Y+v) (hs:Z'+l*P=Z+t % K*P) (ht:t=l+x+c) (hv:v'=v+x*P):Z'+t / K*(P*K)=Y+v':=by
 have h:=Nat.mod_add_div t K;have e1:t*P=t % K*P+t / K*(P*K):=by
  calc t*P=(t % K+K*(t / K))*P:=by rw [h]
   _=t % K*P+t / K*(P*K):=by rw [Nat.add_mul,Nat.mul_comm K,Nat.mul_assoc,Nat.mul_comm K P]
 have e2:t*P=l*P+x*P+c*P:=by rw [ht,Nat.add_mul,Nat.add_mul]
 omega
theorem Bl {Y Z D c i j t:Nat} (he:Z+c*B ^ (j+i)=Y+D % B ^ i*B ^ j) (ht:t=an Z (j+i)+an D i+c) :
  cF Z (j+i) (t % B)+t / B*B ^ (j+(i+1))=Y+D % B ^ (i+1)*B ^ j:=by
 have ep:B ^ (j+(i+1))=B ^ (j+i)*B:=rfl;rw [ep];refine SW he (pH Z (j+i) (t % B)) ht ?_;rw [mod_succ,Nat.add_mul,Nat.pow_add,Nat.mul_comm (B ^ j),Nat.mul_assoc]
theorem A0 {X Z E q:Nat} (hE:0 < E) (h:Z+q*E=X) (hq:X / E≤q):q=X / E∧Z=X % E:=by
 have h1:q≤X / E:=(Nat.le_div_iff_mul_le hE).2 (by omega)
 have J:q=X / E:=by omega
 refine ⟨J,?_⟩;have:=Nat.mod_add_div X E;rw [J,Nat.mul_comm] at h;omega
theorem A1 {X Z E q M:Nat} (hE:0 < E) (h:Z+q*E=X+M) (hZ:Z < M) (hq:q≤X / E+1):q=X / E+1∧Z+E=X % E+M:=by
 have h1:X < q*E:=by omega
 have J:X / E < q:=(Nat.div_lt_iff_lt_mul hE).2 h1;have h3:q=X / E+1:=by omega
 refine ⟨h3,?_⟩;have:=Nat.mod_add_div X E;rw [h3,Nat.add_mul,Nat.one_mul,Nat.mul_comm] at h;omega
theorem Bm {V R c k:Nat} (hV:V < B ^ (k+1)) (hR:R < B ^ k) (hc:c≤1) (h:V+c*B ^ k=R+B ^ (k+1)):cF V k ((an V k+c) % B)=R:=by
 have qZ:c=1:=by
  rcases Nat.eq_zero_or_pos c with h0 | h0
  ·subst h0; omega
  ·omega
 subst qZ;have e:V=R+(B - 1)*B ^ k:=by
  rw [Nat.pow_succ,Nat.mul_comm (B ^ k) B] at h;rw [Nat.sub_mul];have:1*B ^ k≤B*B ^ k:=Nat.mul_le_mul_right _ (by decide)
  omega
 have e2:an V k=B - 1:=by
  rw [yF hV,e,Nat.add_mul_div_right _ _ (eE k),Nat.div_eq_of_lt hR,Nat.zero_add]
 have J:=pH V k ((an V k+1) % B);have e3:(B - 1+1) % B=0:=by decide
 rw [e2,e3] at J;rw [e2,e3];omega
theorem Sd {X D j n n1 n2:Nat} (J:n2=nl D) (h0:n2=n+2) (h1:n1=n+1) (hd:2147483648≤an D n1) (hX:X < D*B ^ (j+1)) :
  X / B ^ j / B ^ n=(an X (j+n2)*B+an X (j+n1))*B+an X (j+n)∧D / B ^ n=an D n1*B+an D n∧X / B ^ j / D < B∧B*B ^ n≤D ∧
  X / B ^ j / D≤(an X (j+n2)*B+an X (j+n1)) / an D n1∧(an X (j+n2)*B+an X (j+n1)) / an D n1≤B+1∧X < B ^ (j+n2+1):=by
 subst h1;have hD:D < B ^ (n+2):=by have:=bW D; rw [← J,h0] at this; exact this
 have DK:=yF (W:=D) (k:=n+1) hD;have xR:0 < D:=by
  rcases Nat.eq_zero_or_pos D with h | h
  ·subst h; rw [Fj] at hd; omega
  ·exact h
 have hW:X / B ^ j < D*B:=by
  refine (Nat.div_lt_iff_lt_mul (eE j)).2 ?_;rw [Nat.mul_assoc,Nat.mul_comm B,← Nat.pow_succ]; exact hX
 have hW3:X / B ^ j < B ^ (n+1+2):=by
  have e:B ^ (n+1+2)=B ^ (n+2)*B:=rfl;rw [e];exact Nat.lt_of_lt_of_le hW (Nat.mul_le_mul_right _ (Nat.le_of_lt hD))
 have ht:=adN hW3;rw [FL,FL] at ht;have q8:X / B ^ j / B ^ (n+1)=an X (j+n2)*B+an X (j+(n+1)):=by rw [h0]; exact ht
 obtain ⟨top,uY⟩:∃ top,top=an X (j+n2)*B+an X (j+(n+1)):=⟨_,rfl⟩;rw [← uY] at q8 ⊢;have hw:=pN (X / B ^ j) n;rw [q8,FL] at hw;have c7:=pN D n;rw [← DK] at c7;obtain ⟨W,hWd⟩:∃ W,W=X / B ^ j:=⟨_,rfl⟩;obtain ⟨d1,fZ⟩:∃ d1,d1=an D (n+1):=⟨_,rfl⟩;rw [← hWd] at hw q8 hW ⊢;rw [← fZ] at c7 hd DK ⊢;have z5:d1*B ^ (n+1)≤D:=by rw [DK]; exact Nat.div_mul_le_self _ _
 have dF:D < (d1+1)*B ^ (n+1):=by rw [DK,Nat.mul_comm]; exact Nat.lt_mul_div_succ _ (eE _)
 refine ⟨?_,?_,?_,?_,?_,?_,?_⟩
 ·rw [hw,Nat.mul_comm B top,Nat.add_comm]
 ·rw [c7,Nat.mul_comm B d1,Nat.add_comm]
 ·exact (Nat.div_lt_iff_lt_mul xR).2 (by rw [Nat.mul_comm]; exact hW)
 ·have e:B*B ^ n=1*B ^ (n+1):=by rw [Nat.pow_succ,Nat.mul_comm,Nat.one_mul]
  rw [e];exact Nat.le_trans (Nat.mul_le_mul_right _ (by omega)) z5
 ·refine (Nat.le_div_iff_mul_le (by omega)).2 ?_
  rw [← q8];refine (Nat.le_div_iff_mul_le (eE _)).2 ?_;rw [Nat.mul_assoc];exact Nat.le_trans (Nat.mul_le_mul_left _ z5) (Nat.div_mul_le_self _ _)
 ·have h5:top < (d1+1)*B:=by
   rw [← q8];refine (Nat.div_lt_iff_lt_mul (eE _)).2 ?_;have:D*B≤(d1+1)*B ^ (n+1)*B:=Nat.mul_le_mul_right _ (Nat.le_of_lt dF);rw [Nat.mul_right_comm] at this;exact Nat.lt_of_lt_of_le hW this
  have h6:top / d1 < B+2:=by
   refine (Nat.div_lt_iff_lt_mul (by omega)).2 ?_
   rw [Nat.add_mul,Nat.mul_comm B d1];rw [Nat.add_mul] at h5;have:B=4294967296:=rfl;omega
  omega
 ·have e:B ^ (j+n2+1)=B ^ (n+2)*B ^ (j+1):=by rw [← Nat.pow_add]; congr 1; omega
  rw [e];exact Nat.lt_of_lt_of_le hX (Nat.mul_le_mul_right _ (Nat.le_of_lt hD))
structure ZF (X D j n n2 top d1 d0 w0 Q q0:Nat):Prop where
 fW:X / B ^ j / B ^ n=top*B+w0
 fD:D / B ^ n=d1*B+d0
 fQ:Q=X / B ^ j / D
 fB:Q < 4294967296
 fP:B*B ^ n≤D
 fq:Q≤q0
 QG:q0≤4294967297
 fX:X < B ^ (j+n2+1)
 Ao:0 < D
theorem ZG {X D j n n1 n2 top d1 d0 w0 Q q0:Nat} (J:n2=nl D) (h0:n2=n+2) (h1:n1=n+1) (hd:2147483648≤an D n1) (hX:X < D*B ^ (j+1))
  (ht:top=an X (j+n2)*4294967296+an X (j+n1)) (fZ:d1=an D n1) (fu:d0=an D n) (hw:w0=an X (j+n)) (hQ:Q=X / B ^ j / D) (vw:q0=top / d1):ZF X D j n n2 top d1 d0 w0 Q q0:=by
 have xR:0 < D:=by
  rcases Nat.eq_zero_or_pos D with h | h
  ·rw [h,Fj] at hd; omega
  ·exact h
 subst ht fZ fu hw hQ vw;obtain ⟨a,b,c,d,e,f,g⟩:=Sd J h0 h1 hd hX;exact ⟨a,b,rfl,c,d,e,f,g,xR⟩
theorem Vw {W D P d1 d0 q r w0 top:Nat} (hD:0 < D) (hP:0 < P) (hW:W / P=top*B+w0) (Jk:D / P=d1*B+d0) (he:q*d1+r=top) (h:r*B+w0 < q*d0):W / D < q:=by
 refine Uj hD hP ?_;rw [hW,Jk];exact Nat.lt_of_not_le fun hle=>Nat.not_le_of_lt h ((MF he).1 hle)
theorem Gq {W D P d1 d0 q r w0 top:Nat} (hP:0 < P) (hW:W / P=top*B+w0) (Jk:D / P=d1*B+d0) (he:q*d1+r=top) (hq:q < B) (hK:B*P≤D) (fu:d0 < B) (h:B≤r∨q*d0≤r*B+w0):q≤W / D+1:=by
 refine SV hP ?_ (Nat.le_of_lt hq) hK;rw [hW,Jk];refine (MF he).2 ?_;rcases h with h | h
 ·have h1:q*d0≤B*B:=Nat.mul_le_mul (Nat.le_of_lt hq) (Nat.le_of_lt fu);have J:B*B≤r*B:=Nat.mul_le_mul_right _ h;omega
 ·exact h
theorem FM (a b:Nat):Int.tdiv (a:Int) (b:Int)=((a / b:Nat):Int):=rfl
theorem MG (a b:Nat):Int.tmod (a:Int) (b:Int)=((a % b:Nat):Int):=rfl
theorem aca {q x:Nat} (hq:q≤4294967297) (hx:x < 4294967296):IntKind.u64.wrap ((q:Int)*(x:Int))=((q*x:Nat):Int)∧q*x < 18446744073709551616:=by
 have h:=Nat.mul_le_mul hq (show x≤4294967295 by omega)
 have e:((q:Int)*(x:Int))=((q*x:Nat):Int):=by simp
 obtain ⟨p,hp⟩:∃ p,p=q*x:=⟨_,rfl⟩;rw [e,← hp];rw [← hp] at h;exact ⟨bL (by omega) (by omega),by omega⟩
theorem BD {c q x t:Nat} (hc:c < B) (hq:q < B) (hx:x < B) (ht:t=c+q*x):IntKind.u64.wrap ((c:Int)+IntKind.u64.wrap ((q:Int)*(x:Int)))=(t:Int)∧t / B < B:=by
 have hB:B=4294967296:=rfl;have h:=Nat.mul_le_mul (show q≤4294967295 by omega) (show x≤4294967295 by omega)
 have e:((q:Int)*(x:Int))=((q*x:Nat):Int):=by simp
 obtain ⟨p,hp⟩:∃ p,p=q*x:=⟨_,rfl⟩;rw [e,← hp];rw [← hp] at h ht;constructor
 ·rw [bL (x:=(p:Int)) (by omega) (by omega),bL (by omega) (by omega),ht]; omega
 ·refine (Nat.div_lt_iff_lt_mul (by decide)).2 ?_
  rw [hB,ht]; omega
open Go
def one (A ca:Nat):Value:=.slice (some ⟨0,0,none⟩) (nl A) ca
abbrev I1:=Nat × Nat × Nat
def Cu:cG:={ ι:=I1,args:=fun i=>[one i.1 i.2.1,.int .u32 i.2.2],ae:=fun i=>[dN i.1],pre:=fun i=>nl i.1≤137438953472∧0 < i.2.2∧i.2.2 < 4294967296,val:=fun i=>.tuple ⟨[kI 1 (i.1 / i.2.2),.int .u32 (i.1 % i.2.2:Nat)]⟩,new:=fun i=>some (.flat true (nl i.1) 1 (bo (i.1 / i.2.2))) }
def Cv:cG:={ ι:=I1,args:=fun i=>[one i.1 i.2.1,.int .i64 i.2.2],ae:=fun i=>[dN i.1],pre:=fun i=>nl i.1≤137438953472∧i.2.2≤31,val:=fun i=>.slice (some ⟨1,0,none⟩) (nl i.1+1) (nl i.1+1),new:=fun i=>some (.flat true (nl i.1+1) 1 (bo (i.1*2 ^ i.2.2))) }
def BE:cG:={ ι:=I1,args:=fun i=>[one i.1 i.2.1,.int .i64 i.2.2],ae:=fun i=>[dN i.1],pre:=fun i=>nl i.1≤137438953472∧i.2.2≤31,val:=fun i=>kI 1 (i.1 / 2 ^ i.2.2),new:=fun i=>some (.flat true (nl i.1) 1 (bo (i.1 / 2 ^ i.2.2))) }
structure DI where
 (X m cx D cd j:Nat)
def wY:zf:={ ι:=DI,args:=fun i=>[.slice (some ⟨0,0,none⟩) i.m i.cx,.slice (some ⟨1,0,none⟩) (nl i.D) i.cd,.int .i64 i.j],ae:=fun i=>[.flat true i.m 1 (bo i.X),dN i.D],pre:=fun i=>i.m≤137438953473∧2≤nl i.D∧2147483648≤an i.D (nl i.D - 1)∧i.j+nl i.D < i.m∧i.X < i.D*B ^ (i.j+1),val:=fun i=>.int .u32 (i.X / (i.D*B ^ i.j):Nat),post:=fun i=>[.flat true i.m 1 (bo (i.X % (i.D*B ^ i.j))),dN i.D],new:=fun _=>[] }
theorem rD {i:DI} {N q:Nat} {H:aA} (h1:N=i.X % (i.D*B ^ i.j)) (J:q=i.X / (i.D*B ^ i.j)) (hH:H[0]?=some (some (.flat true i.m 1 (bo N)))):zF wY i (.int .u32 (q:Nat)) H:=by
 refine ⟨[],List.nodup_nil,by simp,rfl,fun j b q' hb hq ho=>?_,by simp,_,rfl,by subst J; exact .refl _⟩
 match j with
 | 0 =>
  simp [wY] at hb hq;subst hq;exact ⟨_,hH,rfl,by rw [h1]; exact ⟨fun _=>⟨rfl,rfl⟩,rfl,Nat.le_refl _,fun _ _=>rfl,fun r hr v hv=>dC (l:=bo _ r) rfl v hv⟩⟩
 | 1 =>
  simp [wY] at hb;subst hb;cases ho
 | j+2=>simp [wY] at hb
def gz:zf:={ ι:=I2,args:=fun i=>two i.1 i.2.1 i.2.2.1 i.2.2.2,ae:=fun i=>j9 i.1 i.2.2.1,pre:=fun i=>yO i∧i.2.2.1≠0,val:=fun i=>if i.1 < i.2.2.1 then .tuple ⟨[.slice none 0 0,one i.1 i.2.1]⟩ else .tuple ⟨[kI 2 (i.1 / i.2.2.1),kI 3 (i.1 % i.2.2.1)]⟩,post:=fun i=>j9 i.1 i.2.2.1,new:=fun i=>if i.1 < i.2.2.1 then [] else [dN (i.1 / i.2.2.1),dN (i.1 % i.2.2.1)] }
open Go
theorem SX {D n s:Nat} (hn:nl D=n+1) (hs:s=32 - fa (an D n)) :
  s≤31∧an D n≠0∧nl (D*2 ^ s)=n+1∧2147483648≤an (D*2 ^ s) n∧2147483648*B ^ n≤D*2 ^ s:=by
 have xR:D≠0:=by intro h; rw [h,rP] at hn; omega
 have uY:an D n≠0:=by have:=Vk xR; rw [hn] at this; exact this
 obtain ⟨x,hx⟩:∃ x,x=an D n:=⟨_,rfl⟩;rw [← hx] at hs uY ⊢;have ik:x < 4294967296:=by rw [hx]; exact cI D n
 have hb:=ME ik;have z5:1≤fa x:=by
  rcases Nat.eq_zero_or_pos (fa x) with h | h
  ·have:=Gp x; rw [h] at this; omega
  ·exact h
 have al:=bW D;rw [hn] at al;have QH:x=D / B ^ n:=by rw [hx]; exact yF al
 have h1:=JX uY;have J:=Gp x;have e:2 ^ (fa x)*2 ^ s=4294967296:=by rw [← Nat.pow_add,show fa x+s=32 by omega]
 have e2:2 ^ (fa x - 1)*2 ^ s=2147483648:=by rw [← Nat.pow_add,show fa x - 1+s=31 by omega]
 have gV:2147483648*B ^ n≤D*2 ^ s:=by
  rw [← e2,Nat.mul_right_comm];refine Nat.mul_le_mul_right _ ?_;refine Nat.le_trans (Nat.mul_le_mul_right _ h1) ?_;rw [QH]; exact Nat.div_mul_le_self _ _
 have jn:D*2 ^ s < B ^ (n+1):=by
  have h3:D < (x+1)*B ^ n:=by rw [QH,Nat.mul_comm]; exact Nat.lt_mul_div_succ _ (eE n)
  have h4:D*2 ^ s < (x+1)*B ^ n*2 ^ s:=Nat.mul_lt_mul_of_pos_right h3 (Nat.pow_pos (by decide))
  have h5:(x+1)*B ^ n*2 ^ s≤2 ^ fa x*B ^ n*2 ^ s:=Nat.mul_le_mul_right _ (Nat.mul_le_mul_right _ J);rw [Nat.mul_right_comm (2 ^ fa x),e] at h5;have e3:B ^ (n+1)=4294967296*B ^ n:=by rw [Nat.pow_succ,Nat.mul_comm]
  rw [e3];exact Nat.lt_of_lt_of_le h4 h5
 have cE:nl (D*2 ^ s)=n+1:=by
  refine Oe jn (.inr ?_);rw [Nat.add_sub_cancel];refine Nat.le_trans ?_ gV;exact Nat.le_mul_of_pos_left _ (by decide)
 refine ⟨by omega,uY,cE,?_,gV⟩
 rw [yF jn];exact (Nat.le_div_iff_mul_le (eE n)).2 gV
theorem Se {A s:Nat} (hs:s≤31):A*2 ^ s < B ^ (nl A)*2147483648:=by
 have h:=wB hs;exact Nat.mul_lt_mul_of_lt_of_le (bW A) h (by decide)
theorem Uk {A E n s k:Nat} (hs:s≤31) (gV:2147483648*B ^ n≤E) (hk:k=nl A - n) (hle:n≤nl A):A*2 ^ s < E*B ^ k:=by
 refine Nat.lt_of_lt_of_le (Se hs) ?_;have e:B ^ nl A*2147483648=2147483648*B ^ n*B ^ k:=by
  rw [Nat.mul_assoc,← Nat.pow_add,show n+k=nl A by omega,Nat.mul_comm]
 rw [e];exact Nat.mul_le_mul_right _ gV
theorem Ul {V E Q U i:Nat} (hE:0 < E) (h:Q*E+U=V) (hU:U < E*B ^ (i+1)) (hQ:Q % B ^ (i+1)=0) :
  U / (E*B ^ i) < B∧cF Q i (U / (E*B ^ i))*E+U % (E*B ^ i)=V∧U % (E*B ^ i) < E*B ^ i∧cF Q i (U / (E*B ^ i)) % B ^ i=0:=by
 have hP:0 < E*B ^ i:=Nat.mul_pos hE (eE i);have hd:U / (E*B ^ i) < B:=by
  refine (Nat.div_lt_iff_lt_mul hP).2 ?_;rw [Nat.mul_comm,Nat.mul_assoc,← Nat.pow_succ]; exact hU
 obtain ⟨K,hK⟩:∃ K,Q=K*B ^ (i+1):=⟨Q / B ^ (i+1),by rw [Nat.mul_comm]; have:=Nat.mod_add_div Q (B ^ (i+1)); rw [hQ,Nat.zero_add] at this; exact this.symm⟩
 have hl:an Q i=0:=by rw [hK]; exact Kh K i
 rw [D5 hl];refine ⟨hd,?_,Nat.mod_lt _ hP,?_⟩
 ·rw [Nat.add_mul,← h,Nat.add_assoc]
  congr 1
  rw [Nat.mul_assoc,Nat.mul_comm (B ^ i) E,Nat.mul_comm];exact Nat.div_add_mod U (E*B ^ i)
 ·rw [hK,Nat.pow_succ,Nat.mul_comm (B ^ i) B,← Nat.mul_assoc,← Nat.add_mul];exact Nat.mul_mod_left _ _
theorem Vx {A D s Q U:Nat} (hD:0 < D) (h:Q*(D*2 ^ s)+U=A*2 ^ s) (hU:U < D*2 ^ s):Q=A / D∧U=A % D*2 ^ s∧U / 2 ^ s=A % D:=by
 have hs:0 < 2 ^ s:=Nat.pow_pos (by decide)
 have hE:0 < D*2 ^ s:=Nat.mul_pos hD hs;have h1:A*2 ^ s / (D*2 ^ s)=Q:=by
  rw [← h,Nat.mul_comm Q];rw [Nat.mul_add_div hE,Nat.div_eq_of_lt hU,Nat.add_zero]
 have J:A*2 ^ s % (D*2 ^ s)=U:=by
  rw [← h,Nat.mul_comm Q,Nat.mul_add_mod,Nat.mod_eq_of_lt hU]
 rw [Nat.mul_div_mul_right _ _ hs] at h1;rw [Nat.mul_mod_mul_right] at J;refine ⟨h1.symm,J.symm,?_⟩;rw [← J,Nat.mul_div_cancel _ hs]
theorem SY {N:Nat} (h:N < 4294967296):an N 0=N:=by
 unfold an;rw [Nat.pow_zero,Nat.div_one]; exact Nat.mod_eq_of_lt h
theorem ZH {D:Nat} (h:nl D=1):an D 0=D∧D < 4294967296∧0 < D:=by
 have h1:=bW D;rw [h,Nat.pow_one] at h1;have h0:D≠0:=by intro e; rw [e,rP] at h; omega
 refine ⟨?_,h1,by omega⟩
 unfold an;rw [Nat.pow_zero,Nat.div_one]; exact Nat.mod_eq_of_lt h1
theorem Um {A ca D cd:Nat} {H:aA} (h:A < D):zF gz (A,ca,D,cd) (.tuple ⟨[.slice none 0 0,.slice (some ⟨0,0,none⟩) (nl A) ca]⟩) H:=by
 have e1:gz.val (A,ca,D,cd)=.tuple ⟨[.slice none 0 0,one A ca]⟩:=if_pos h;have e2:gz.new (A,ca,D,cd)=[]:=if_pos h;refine ⟨[],List.nodup_nil,by simp,by rw [e2]; rfl,fun j b q' hb hq ho=>?_,fun j p b hp=>by simp at hp,_,by rw [e1]; rfl,.refl _⟩
 match j with
 | 0=>simp [gz,j9] at hb; subst hb; cases ho
 | 1=>simp [gz,j9] at hb; subst hb; cases ho
 | j+2=>simp [gz,j9] at hb
theorem LX {A ca D cd q r c1 c2:Nat} {H:aA} {b1 b2:aj} (h:D≤A) (hq:2≤q) (hr:2≤r) (Jl:q≠r)
  (h1:H[q]?=some (some b1)) (J:H[r]?=some (some b2)) (o1:b1.own=true) (o2:b2.own=true) (l1:ar (dN (A / D)) b1) (l2:ar (dN (A % D)) b2) :
  zF gz (A,ca,D,cd) (.tuple ⟨[.slice (some ⟨q,0,none⟩) (nl (A / D)) c1,.slice (some ⟨r,0,none⟩) (nl (A % D)) c2]⟩) H:=by
 have hn:¬ A < D:=by omega
 have e1:gz.val (A,ca,D,cd)=.tuple ⟨[kI 2 (A / D),kI 3 (A % D)]⟩:=if_neg hn;have e2:gz.new (A,ca,D,cd)=[dN (A / D),dN (A % D)]:=if_neg hn;refine ⟨[q,r],by simp [Jl],fun p hp=>?_,by rw [e2]; rfl,fun j b q' hb hq ho=>?_,fun j p b hp hb=>?_,_,by rw [e1]; rfl,.two (.cap _ _ _ rfl) (.cap _ _ _ rfl)⟩
 ·simp at hp;show 2≤p
  omega
 ·match j with
  | 0=>simp [gz,j9] at hb; subst hb; cases ho
  | 1=>simp [gz,j9] at hb; subst hb; cases ho
  | j+2=>simp [gz,j9] at hb
 ·rw [e2] at hb
  match j with
  | 0=>simp at hp hb; subst hp hb; exact ⟨b1,h1,o1,l1⟩
  | 1=>simp at hp hb; subst hp hb; exact ⟨b2,J,o2,l2⟩
  | j+2=>simp at hb
theorem LY {x n:Nat} (hx:x < 4294967296) (hn:n≤1):ar (.flat false n 1 (bo x)) (.aS true 1 [[.int .u32 (x:Nat)]]):=by
 refine ⟨(fun h=>by cases h),rfl,hn,fun r hr=>?_,fun r hr v hv=>dC (l:=bo x r) rfl v hv⟩
 have h0:r=0:=by
  have:r < n:=hr;omega
 subst h0;show [Value.int .u32 (an x 0:Nat)]=[Value.int .u32 (x:Nat)]
 rw [SY hx]
open Go
def a9 (b:Bool) (N:Nat):Int:=if b then -(N:Int) else N
def ll (b:Bool) (N:Nat):Value:=.agg ⟨[.bool (b && N != 0),.string (nb N)]⟩
def aH (z:Int):Value:=.agg ⟨[.bool (decide (z < 0)),.string (nb z.natAbs)]⟩
theorem jc (b:Bool) (N:Nat):ll b N=aH (a9 b N):=by
 unfold ll aH a9;cases b
 ·simp
 ·by_cases h:N=0
  ·subst h; simp
  ·have e:(N != 0)=true:=by simp [h]
   simp [e];omega
theorem Vy (b c:Bool) (M N:Nat):a9 (b != c) (M*N)=a9 b M*a9 c N:=by
 cases b <;> cases c <;> simp [a9,Int.neg_mul,Int.mul_neg]
theorem FN (b:Bool) (N:Nat):a9 (!b) N=-a9 b N:=by cases b <;> simp [a9]
theorem LZ (b:Bool) (M N:Nat):a9 b (M+N)=a9 b M+a9 b N:=by cases b <;> simp [a9] <;> omega
theorem Bn {b c:Bool} (h:b≠c) {M N:Nat} (hle:N≤M):a9 b (M - N)=a9 b M+a9 c N:=by
 cases b <;> cases c <;> simp [a9] at h ⊢ <;> omega
theorem tV (b:Bool) (N:Nat):(a9 b N).natAbs=N:=by cases b <;> simp [a9]
theorem Fm {b:Bool} {N:Nat}:a9 b N=0↔N=0:=by cases b <;> simp [a9]
def dO (x y:Int):Int:=if x < y then -1 else if y < x then 1 else 0
theorem BF (M N:Nat):dO (M:Int) (N:Int)=cL M N:=by
 unfold dO cL
 split <;> split <;> (try split) <;> (try split) <;> omega
theorem MH (M N:Nat):dO (-(M:Int)) (-(N:Int))=cL N M:=by
 unfold dO cL
 split <;> split <;> (try split) <;> (try split) <;> omega
theorem Un (A D:Nat):nl (A*D)≤nl A+nl D:=jD (by
 rw [Nat.pow_add];exact Nat.mul_lt_mul_of_lt_of_le (bW A) (Nat.le_of_lt (bW D)) (eE _))
theorem L4 (A D:Nat):nl (A+D)≤max (nl A) (nl D)+1:=jD (by
 have h1:=Nat.lt_of_lt_of_le (bW A) (Nat.pow_le_pow_right (show 0 < B by decide) (Nat.le_max_left (nl A) (nl D)))
 have J:=Nat.lt_of_lt_of_le (bW D) (Nat.pow_le_pow_right (show 0 < B by decide) (Nat.le_max_right (nl A) (nl D)))
 have e:B ^ (max (nl A) (nl D)+1)=B ^ (max (nl A) (nl D))*4294967296:=rfl;rw [e];generalize B ^ (max (nl A) (nl D))=K at *;omega)
theorem Og {N:Nat} (h:N < 18446744073709551616):N < 4294967296 ^ 2:=Nat.lt_of_lt_of_le h (by decide)
theorem MI {N:Nat} (h:N < 18446744073709551616):an N 0=N % 4294967296∧an N 1=N / 4294967296:=by
 unfold an;rw [Nat.pow_zero,Nat.div_one,Nat.pow_one];exact ⟨rfl,Nat.mod_eq_of_lt (show N / 4294967296 < 4294967296 by omega)⟩
theorem Nw {N x:Nat} (h:N < 36028797018963968) (hx:x < 256):IntKind.i64.wrap ((BitVec.ofInt IntKind.i64.bits (IntKind.i64.wrap ((N:Int)*256)) ||| BitVec.ofInt IntKind.i64.bits (IntKind.i64.wrap (x:Int))).toNat:Int)=((N*256+x:Nat):Int):=by
 rw [ay (x:=(N:Int)*256) (by omega) (by omega),ay (x:=(x:Int)) (by omega) (by omega),dK N x h hx]
 omega
theorem MJ {N:Nat} (h:N < 18446744073709551616):ar (.flat false 2 1 (bo N)) (.aS true 1 [[.int .u32 (IntKind.u32.wrap (N:Int))],[.int .u32 (IntKind.u32.wrap ((N:Int).fdiv (2 ^ min (Int.toNat 32) IntKind.u64.bits)))]]):=by
 obtain ⟨h1,J⟩:=MI h;refine ⟨(fun h=>by cases h),rfl,Nat.le_refl _,fun r hr=>?_,fun r hr v hv=>dC (l:=bo N r) rfl v hv⟩
 have hr:r < 2:=hr
 match r,hr with
 | 0,_ =>
  show [Value.int .u32 (an N 0:Nat)]=[Value.int .u32 (IntKind.u32.wrap (N:Int))]
  rw [h1,wx]; rfl
 | 1,_ =>
  show [Value.int .u32 (an N 1:Nat)]=[Value.int .u32 (IntKind.u32.wrap ((N:Int).fdiv (2 ^ min (Int.toNat 32) IntKind.u64.bits)))]
  rw [J,cf,db (by omega) (by omega)]; rfl
theorem ua {x y:Int} (h:x < y):dO x y=-1:=if_pos h
theorem ub {x y:Int} (h:y < x):dO x y=1:=by
 unfold dO;rw [if_neg (by omega),if_pos h]
theorem WR {N:Nat} (h:((nl N:Nat):Int) > 0):0 < N:=by
 rcases Nat.eq_zero_or_pos N with h0 | h0
 ·rw [h0,rP] at h; exact absurd h (by decide)
 ·exact h0
theorem SZ {N:Nat} (h:¬ ((nl N:Nat):Int) > 0):N=0:=K7 (by omega)
theorem wK {N:Nat} (h:0 < N):decide (((nl N:Nat):Int) > 0)=true:=decide_eq_true (by have:=yL (show N≠0 by omega); omega)
theorem wC {N:Nat} (h:N=0):decide (((nl N:Nat):Int) > 0)=false:=by rw [h,rP]; rfl
theorem Db {i:Nat} (h:i≤6):C ^ i≤281474976710656:=Nat.le_trans (Nat.pow_le_pow_right (by decide) h) (by decide)
theorem nT {i:Nat} (h:i≤7):C ^ i≤72057594037927936:=Nat.le_trans (Nat.pow_le_pow_right (by decide) h) (by decide)
theorem wg:aH 0=.agg ⟨[.bool false,.string ⟨#[]⟩]⟩:=by unfold aH; rw [Int.natAbs_zero,pQ]; rfl
theorem AQ {x y q r:Int} (hy:0 < y) (h:r+y*q=x) (h0:0≤r) (h1:r < y):x.fdiv y=q∧x.fmod y=r:=by
 have:=(Int.ediv_emod_unique hy).2 ⟨h,h0,h1⟩;rw [Int.fdiv_eq_ediv_of_nonneg _ (Int.le_of_lt hy),Int.fmod_eq_emod_of_nonneg _ (Int.le_of_lt hy)];exact this
theorem D3 {x y q r:Int} (hy:y < 0) (h:r+y*q=x) (h0:r≤0) (h1:y < r):x.fdiv y=q∧x.fmod y=r:=by
 have J:=AQ (x:=-x) (y:=-y) (q:=q) (r:=-r) (by omega) (by rw [← h,Int.neg_mul]; omega) (by omega) (by omega)
 rw [Int.neg_fdiv_neg] at J;refine ⟨J.1,?_⟩;rw [Int.fmod_def,J.1,← h];omega
theorem wh {b c:Bool} {A D:Nat} (hD:0 < D) (h:A % D=0∨b=c):(a9 b A).fdiv (a9 c D)=a9 (b != c) (A / D)∧(a9 b A).fmod (a9 c D)=a9 b (A % D):=by
 have hm:=Nat.mod_lt A hD;have he:((A % D:Nat):Int)+(D:Int)*((A / D:Nat):Int)=(A:Int):=by
  have:=Nat.mod_add_div A D;have J:=congrArg (fun n:Nat=>(n:Int)) this
  simpa using J
 cases b <;> cases c
 ·exact AQ (by simp [a9]; omega) (by simpa [a9] using he) (by simp [a9]; omega) (by simp only [a9,Bool.false_eq_true,if_false]; omega)
 ·have h:A % D=0:=h.resolve_right (by simp)
  refine D3 (by simp [a9]; omega) ?_ (by simp [a9,h]) (by simp [a9,h]; omega)
  rw [h] at he ⊢;simp only [a9,Bool.false_eq_true,if_false,if_true,bne,Bool.not_false,show ((false == true)=false) from rfl,Int.neg_mul_neg]
  exact he
 ·have h:A % D=0:=h.resolve_right (by simp)
  refine AQ (by simp [a9]; omega) ?_ (by simp [a9,h]) (by simp [a9,h]; omega)
  rw [h] at he ⊢;simp only [a9,Bool.false_eq_true,if_false,if_true,bne,Bool.not_false,show ((true == false)=false) from rfl,Int.mul_neg]
  omega
 ·refine D3 (by simp [a9]; omega) ?_ (by simp only [a9,if_true]; omega) (by simp only [a9,if_true]; omega)
  simp only [a9,if_true,bne,Bool.not_true,show ((true == true)=true) from rfl,Bool.false_eq_true,if_false,Int.neg_mul]
  omega
theorem ES {b c:Bool} {A D:Nat} (hD:0 < D) (h:A % D≠0) (pg:b≠c):(a9 b A).fdiv (a9 c D)=a9 (b != c) (A / D) - 1∧(a9 b A).fmod (a9 c D)=a9 b (A % D)+a9 c D:=by
 have hm:=Nat.mod_lt A hD;have he:((A % D:Nat):Int)+(D:Int)*((A / D:Nat):Int)=(A:Int):=by
  have:=Nat.mod_add_div A D;have J:=congrArg (fun n:Nat=>(n:Int)) this
  simpa using J
 cases b <;> cases c
 ·exact absurd rfl pg
 ·refine D3 (by simp [a9]; omega) ?_ (by simp only [a9,Bool.false_eq_true,if_false,if_true]; omega) (by simp only [a9,Bool.false_eq_true,if_false,if_true]; omega)
  simp only [a9,Bool.false_eq_true,if_false,if_true,bne,Bool.not_false,show ((false == true)=false) from rfl,Int.mul_sub,Int.neg_mul_neg,Int.mul_one]
  omega
 ·refine AQ (by simp [a9]; omega) ?_ (by simp only [a9,Bool.false_eq_true,if_false,if_true]; omega) (by simp only [a9,Bool.false_eq_true,if_false,if_true]; omega)
  simp only [a9,Bool.false_eq_true,if_false,if_true,bne,Bool.not_false,show ((true == false)=false) from rfl,Int.mul_sub,Int.mul_neg,Int.mul_one]
  omega
 ·exact absurd rfl pg
theorem wD {N:Nat} (h:N=0):(!(nb N).toList == (⟨#[]⟩:ByteArray).toList)=false:=by rw [pZ,h,pQ]; simp
theorem wL {N:Nat} (h:N≠0):(!(nb N).toList == (⟨#[]⟩:ByteArray).toList)=true:=by
 rw [pZ];have:nb N≠⟨#[]⟩:=fun e=>h (Kf.1 e)
 simp [this]
abbrev IV:=Bool × ByteArray
def IV.v (i:IV):Value:=.agg ⟨[.bool i.1,.string i.2]⟩
def IV.z (i:IV):Int:=a9 i.1 (ab i.2)
def IV.ok (i:IV):Prop:=i.2.size≤549755813888
theorem IV.nl {i:IV} (h:i.ok):nl (ab i.2)≤137438953472:=by
 rw [Of];have:=iZ i.2;have h:i.2.size≤549755813888:=h;omega
theorem Cw (b:Bool) (N:Nat):IV.z (b && N != 0,nb N)=a9 b N:=by
 show a9 _ (ab (nb N))=_
 rw [g8];cases b
 ·rfl
 ·by_cases h:N=0
  ·subst h; rfl
  ·have e:(N != 0)=true:=by simp [h]
   rw [e]; rfl
theorem Bb {N:Nat} {s:ByteArray} (h:N≤ab s):(nb N).size≤s.size:=by
 rw [gy];exact Nat.le_trans (iK h) (iZ s)
theorem GW:(nb 1).size≤1:=by rw [gy]; exact gE (by decide)
theorem Oh (z:Int):IV.z (decide (z < 0),nb z.natAbs)=z:=by
 show a9 _ (ab (nb z.natAbs))=z
 rw [g8];unfold a9;by_cases h:z < 0
 ·simp [h]; omega
 ·simp [h]; omega
theorem Gr {i:IV} (h:i.2.size≤7):-72057594037927936 < i.z∧i.z < 72057594037927936:=by
 have h1:=Nat.lt_of_lt_of_le (gn i.2) (nT h);unfold IV.z a9
 split <;> omega
def eY:bF:={ ι:=Int,args:=fun n=>[.int .i64 n],pre:=fun n=>-9223372036854775808≤n∧n < 9223372036854775808,val:=fun n=>aH n }
def wM:bF:={ ι:=IV,args:=fun i=>[i.v],pre:=IV.ok,val:=fun i=>.tuple ⟨[.int .i64 (if i.2.size≤7 then i.z else 0),.bool (decide (i.2.size≤7))]⟩ }
def gP:bF:={ ι:=IV,args:=fun i=>[i.v],pre:=IV.ok,val:=fun i=>aH (-i.z) }
abbrev kl:=IV × IV
def kl.ok (i:kl):Prop:=i.1.ok∧i.2.ok
def iU:bF:={ ι:=kl,args:=fun i=>[i.1.v,i.2.v],pre:=kl.ok,val:=fun i=>aH (i.1.z+i.2.z) }
def mn:bF:={ ι:=kl,args:=fun i=>[i.1.v,i.2.v],pre:=kl.ok,val:=fun i=>aH (i.1.z - i.2.z) }
def fi:bF:={ ι:=kl,args:=fun i=>[i.1.v,i.2.v],pre:=kl.ok,val:=fun i=>aH (i.1.z*i.2.z) }
def lu:bF:={ ι:=kl,args:=fun i=>[i.1.v,i.2.v],pre:=kl.ok,val:=fun i=>.int .i64 (dO i.1.z i.2.z) }
def uZ:bF:={ ι:=kl,args:=fun i=>[i.1.v,i.2.v],pre:=kl.ok,val:=fun i=>aH (Int.gcd i.1.z i.2.z:Nat) }
def iF:bF:={ ι:=kl,args:=fun i=>[i.1.v,i.2.v],pre:=kl.ok,val:=fun i=>.tuple ⟨[aH (i.1.z.fdiv i.2.z),aH (if i.2.z=0 then 0 else i.1.z.fmod i.2.z),.int .i64 (if i.2.z=0 then 10 else 0)]⟩ }
theorem yr {s:ByteArray} {i:Nat} (h:i < s.size):ab s / C ^ (s.size - (i+1))=ab s / C ^ (s.size - i)*256+bZ s i:=by
 rw [tN h,show s.size - 1 - i=s.size - (i+1) by omega]
 have e:C ^ (s.size - i)=C ^ (s.size - (i+1))*C:=by rw [← Nat.pow_succ]; congr 1; omega
 rw [e,← Nat.div_div_eq_div_mul,Nat.mul_comm];exact (Nat.div_add_mod _ C).symm
theorem Cx (s:ByteArray) {i:Nat} (h:i≤s.size):ab s / C ^ (s.size - i) < C ^ i:=by
 refine (Nat.div_lt_iff_lt_mul (gO _)).2 ?_;rw [← Nat.pow_add,show i+(s.size - i)=s.size by omega]
 exact gn s
open Go
def je:bF:={ ι:=IV,args:=fun i=>[i.v],pre:=IV.ok,val:=fun i=>aH i.z }
def jY:bF:={ ι:=ByteArray,args:=fun s=>[.string s],pre:=fun s=>s.size≤7,val:=fun s=>.int .i64 (ab s:Nat) }
def wZ:bF:={ ι:=IV,args:=fun i=>[i.v],pre:=fun i=>i.2.size≤7,val:=fun i=>.int .i64 i.z }
def Ic:bF:={ ι:=Nat,args:=fun n=>[.int .i64 n],pre:=fun n=>n < 9223372036854775808,val:=fun n=>.string (nb n) }
def rR:bF:={ ι:=Nat × Nat,args:=fun i=>[.string (nb i.1),.string (nb i.2)],pre:=fun i=>aT i.1≤1099511627776∧aT i.2≤1099511627776,val:=fun i=>.int .i64 (cL i.1 i.2) }
theorem drop_zero {u:ByteArray} (h1:u.size≠0) (J:bZ u 0=0):ab (u.extract 1 u.size)=ab u∧(u.extract 1 u.size).size=u.size - 1:=by
 have h3:=tN (s:=u) (i:=0) (by omega)
 have h4:=gn u;refine ⟨?_,D9 (by omega) (Nat.le_refl _)⟩
 rw [Eo (by omega) (Nat.le_refl _),Nat.sub_self,Nat.pow_zero,Nat.div_one]
 refine Nat.mod_eq_of_lt ?_;rw [J,Nat.sub_zero] at h3;have h5:ab u / C ^ (u.size - 1) < C:=(Nat.div_lt_iff_lt_mul (gO _)).2 (by
  rw [Nat.mul_comm,← Nat.pow_succ,show (u.size - 1).succ=u.size by omega]; exact h4)
 rw [Nat.mod_eq_of_lt h5] at h3;rcases Nat.lt_or_ge (ab u) (C ^ (u.size - 1)) with h6 | h6
 ·exact h6
 ·have:=Nat.div_pos h6 (gO _);omega
theorem MK {N x:Nat} (h:N < 36028797018963968) (hx:x < 256):IntKind.i64.wrap ((BitVec.ofInt IntKind.i64.bits (IntKind.i64.wrap ((N:Int)*2 ^ min (Int.toNat 8) IntKind.i64.bits)) ||| BitVec.ofInt IntKind.i64.bits (IntKind.i64.wrap (x:Int))).toNat:Int)=((N*256+x:Nat):Int):=Nw h hx
theorem p5 (t:Nat):IntKind.u8.wrap (t:Int)=((t % C:Nat):Int):=by rw [kQ]; rfl
theorem Ep {g:Nat→List Value} {i m X:Nat} (h:∀ r,r < m→g (i+r)=[.int .u8 ((X / C ^ (m - 1 - r) % C:Nat):Int)]):(⟨⟨bytesOf g i m⟩⟩:ByteArray)=be m X:=by
 have e:bytesOf g i m=bytesOf (fun r=>g (i+r)) 0 m:=by
  unfold bytesOf;simp only [Nat.zero_add]
 rw [e];exact vZ h
theorem xl {N n:Nat} (h:N < C ^ n) (J:n=0∨C ^ (n - 1)≤N):nb N=be n N:=by
 unfold nb;rw [Ob h J]
theorem Uo {b:Bool} {s:ByteArray} (h:0 < s.size) (J:bZ s 0≠0):Value.agg ⟨[.bool b,.string s]⟩=aH (IV.z (b,s)):=by
 have h3:=yM (s:=s) (.inr J);have h4:ab s≠0:=by
  intro e;rw [e,pQ] at h3;rw [h3] at h;exact absurd h (by decide)
 have e:=jc b (ab s);unfold ll at e;rw [← h3] at e;have e1:(ab s != 0)=true:=by simp [h4]
 rw [e1,Bool.and_true] at e;exact e
theorem PD {n:Nat} (h:n < 9223372036854775808):n / C ^ 8=0:=Nat.div_eq_of_lt (Nat.lt_of_lt_of_le h (by decide))
theorem L5 {A D:Nat} (h:(nb A).size < (nb D).size):A < D:=by
 rw [gy,gy] at h;exact RJ h
theorem Up {A D:Nat} (h:(nb A).size=(nb D).size):Op.bytesLess (nb A).toList (nb D).toList=decide (A < D):=by
 rw [Vo h,g8,g8]
theorem Uq {A D:Nat}:((nb A).toList == (nb D).toList)=decide (A=D):=by
 rw [pZ];by_cases h:A=D
 ·subst h; simp
 ·have:nb A≠nb D:=fun e=>h (Od e)
  simp [this,h]
theorem FO (N:Nat):(!(nb N).toList == (⟨#[]⟩:ByteArray).toList)=(N != 0):=by
 by_cases h:N=0
 ·rw [wD h,h]; rfl
 ·rw [wL h]; simp [h]
theorem Er (n k:Nat):n / C ^ k / 256=n / C ^ (k+1):=by rw [Nat.div_div_eq_div_mul,← Nat.pow_succ]
open Go
def bT (N i:Nat):Nat:=N / C ^ i % C
theorem p6 (N i:Nat):bT N i < C:=Nat.mod_lt _ (by decide)
def jZ (Y j d:Nat):Nat:=Y % C ^ j+C ^ j*(d+C*(Y / C ^ (j+1)))
theorem EU (Y j:Nat):Y=Y % C ^ j+C ^ j*(bT Y j+C*(Y / C ^ (j+1))):=by
 have h1:=Nat.mod_add_div Y (C ^ j);have J:=Nat.mod_add_div (Y / C ^ j) C;rw [Nat.div_div_eq_div_mul,← Nat.pow_succ] at J;unfold bT;rw [J,h1]
theorem Ld (Y j d:Nat):jZ Y j d+bT Y j*C ^ j=Y+d*C ^ j:=by
 have h:=EU Y j;unfold jZ;rw [Nat.mul_add] at h ⊢;have e1:C ^ j*bT Y j=bT Y j*C ^ j:=Nat.mul_comm _ _;have e2:C ^ j*d=d*C ^ j:=Nat.mul_comm _ _;omega
theorem Nx {Y j d:Nat} (hd:d < C) (r:Nat):bT (jZ Y j d) r=if r=j then d else bT Y r:=by
 have ha:Y % C ^ j < C ^ j:=Nat.mod_lt _ (gO j);rcases Nat.lt_trichotomy r j with h | h | h
 ·rw [if_neg (by omega)]
  have key:∀ K,bT (Y % C ^ j+C ^ j*K) r=bT (Y % C ^ j) r:=by
   intro K;unfold bT;have e:C ^ j*K=C ^ r*(C*(C ^ (j - r - 1)*K)):=by
    rw [← Nat.mul_assoc,← Nat.mul_assoc,← Nat.pow_succ,← Nat.pow_add,show r+1+(j - r - 1)=j by omega]
   rw [e,Nat.add_mul_div_left _ _ (gO r),Nat.add_mul_mod_self_left]
  have h1:=key (d+C*(Y / C ^ (j+1)));have J:=key (bT Y j+C*(Y / C ^ (j+1)));rw [← EU Y j] at J;unfold jZ;rw [h1,J]
 ·subst h;rw [if_pos rfl];unfold jZ bT;rw [ov ha,Nat.add_mul_mod_self_left,Nat.mod_eq_of_lt hd]
 ·rw [if_neg (by omega)]
  have key:∀ d',d' < C→bT (Y % C ^ j+C ^ j*(d'+C*(Y / C ^ (j+1)))) r=Y / C ^ (j+1) / C ^ (r - j - 1) % C:=by
   intro d' cV;unfold bT;have e:C ^ r=C ^ j*(C*C ^ (r - j - 1)):=by
    rw [← Nat.mul_assoc,← Nat.pow_succ,← Nat.pow_add,show j+1+(r - j - 1)=r by omega]
   rw [e,← Nat.div_div_eq_div_mul,ov ha,← Nat.div_div_eq_div_mul,ov cV]
  have h1:=key d hd;have J:=key (bT Y j) (p6 Y j);rw [← EU Y j] at J;unfold jZ;rw [h1,J]
theorem Vz (r:Nat):bT 0 r=0:=by simp [bT]
theorem Gs {N n:Nat} (h:N < C ^ n) {r:Nat} (hr:n≤r):bT N r=0:=by
 unfold bT;have:C ^ n≤C ^ r:=Nat.pow_le_pow_right (by decide) hr
 rw [Nat.div_eq_of_lt (by omega)]; rfl
theorem wi (N i:Nat):N % C ^ (i+1)=N % C ^ i+bT N i*C ^ i:=by
 unfold bT;rw [Nat.pow_succ,Nat.mod_mul];rw [Nat.mul_comm (C ^ i)]
theorem Le {Y i d:Nat} (hY:Y < C ^ i):jZ Y i d=Y+d*C ^ i:=by
 have h:=Ld Y i d;rw [Gs hY (Nat.le_refl _),Nat.zero_mul,Nat.add_zero] at h;exact h
theorem L6 {Z j d m:Nat} (hZ:Z < C ^ m) (hj:j < m) (hd:d < C):jZ Z j d < C ^ m:=by
 have h1:(jZ Z j d) / C ^ m=0:=by
  have e:C ^ m=C ^ j*(C*C ^ (m - j - 1)):=by
   rw [← Nat.mul_assoc,← Nat.pow_succ,← Nat.pow_add,show j+1+(m - j - 1)=m by omega]
  have ha:Z % C ^ j < C ^ j:=Nat.mod_lt _ (gO j);unfold jZ;rw [e,← Nat.div_div_eq_div_mul,ov ha,← Nat.div_div_eq_div_mul,ov hd,Nat.div_div_eq_div_mul,← Nat.pow_add,show j+1+(m - j - 1)=m by omega]
  exact Nat.div_eq_of_lt hZ
 rcases Nat.lt_or_ge (jZ Z j d) (C ^ m) with h | h
 ·exact h
 ·have:=Nat.div_pos h (gO m);omega
theorem Sf {Z c x D i k t Y:Nat} (he:Z+c*C ^ (i+k)=Y+x*(D % C ^ k)*C ^ i) (ht:t=c+(x*bT D k+bT Z (i+k))) :
  jZ Z (i+k) (t % C)+t / C*C ^ (i+(k+1))=Y+x*(D % C ^ (k+1))*C ^ i:=by
 have hs:=Ld Z (i+k) (t % C);rw [wi D k,← Nat.add_assoc,Nat.pow_succ];rw [Nat.pow_add] at he hs ⊢;exact KB he hs ht
theorem S0 {A D Y Z c i n:Nat} (hY:Y=A % C ^ i*D) (hD:D < C ^ n) (hZ:Z < C ^ (i+n)) (he:Z+c*C ^ (i+n)=Y+bT A i*(D % C ^ n)*C ^ i) :
  jZ Z (i+n) c=A % C ^ (i+1)*D:=by
 rw [Le hZ,he,Nat.mod_eq_of_lt hD,hY,wi,Nat.add_mul,Nat.mul_assoc (bT A i),Nat.mul_comm D,← Nat.mul_assoc]
open Go
abbrev S2:=ByteArray × ByteArray
def S2.ok (i:S2):Prop:=i.1.size≤549755813896∧i.2.size≤549755813896
def wN:bF:={ ι:=S2,args:=fun i=>[.string i.1,.string i.2],pre:=S2.ok,val:=fun i=>.string (nb (ab i.1+ab i.2)) }
def rS:bF:={ ι:=S2,args:=fun i=>[.string i.1,.string i.2],pre:=fun i=>S2.ok i∧ab i.2≤ab i.1,val:=fun i=>.string (nb (ab i.1 - ab i.2)) }
def Gt:bF:={ ι:=S2,args:=fun i=>[.string i.1,.string i.2],pre:=fun i=>i.1.size≤549755813888∧i.2.size≤549755813888,val:=fun i=>.string (nb (ab i.1*ab i.2)) }
def pR:bF:={ ι:=ByteArray × Nat,args:=fun i=>[.string i.1,.string (nb i.2)],pre:=fun i=>i.1.size≤549755813888∧aT i.2≤549755813888∧i.2≠0,val:=fun i=>.tuple ⟨[.string (nb (ab i.1 / i.2)),.string (nb (ab i.1 % i.2))]⟩ }
theorem tJ {s:ByteArray} {j:Nat} (h:j < s.size):bZ s (s.size - (j+1))=bT (ab s) j:=by
 rw [tN (by omega),show s.size - 1 - (s.size - (j+1))=j by omega]
 rfl
theorem BG {s:ByteArray} {j:Nat} (h:s.size≤j):bT (ab s) j=0:=Gs (gn s) h
def mN (g:Nat→List Value) (n j Y:Nat):Prop:=(∀ r,r < n→∃ x:Int,g r=[.int .u8 x])∧∀ r,n - j≤r→r < n→g r=[.int .u8 ((bT Y (n - 1 - r):Nat):Int)]
theorem JY (n:Nat):mN (fun _=>[.int .u8 0]) n 0 0:=⟨fun r _=>⟨0,rfl⟩,fun r h1 J=>absurd h1 (by omega)⟩
theorem J2 {g:Nat→List Value} {n j Y d:Nat} (h:mN g n j Y) (hj:j < n) (hY:Y < C ^ j) (hd:d < C) :
  mN (fun r=>if r=n - (j+1) then [.int .u8 (d:Nat)] else g r) n (j+1) (Y+d*C ^ j):=by
 refine ⟨fun r hr=>?_,fun r h1 J=>?_⟩
 ·by_cases e:r=n - (j+1)
  ·exact ⟨_,if_pos e⟩
  ·simp only [if_neg e]; exact h.1 r hr
 ·rw [← Le hY,Nx hd];by_cases e:r=n - (j+1)
  ·simp only [if_pos e];rw [if_pos (by omega)]
  ·simp only [if_neg e];rw [if_neg (by omega)]
   exact h.2 r (by omega) J
theorem Ki {g:Nat→List Value} {n Y:Nat} (h:mN g n n Y):(⟨⟨bytesOf g 0 n⟩⟩:ByteArray)=be n Y:=vZ fun r hr=>by
 rw [h.2 r (by omega) hr]
 rfl
theorem S3 {X D Y c i t:Nat} (he:Y+c*C ^ i=X % C ^ i+D % C ^ i) (ht:t=c+bT X i+bT D i) :
  Y+t % C*C ^ i+t / C*C ^ (i+1)=X % C ^ (i+1)+D % C ^ (i+1):=by
 rw [wi X i,wi D i,Nat.pow_succ];exact K9 he ht
theorem KD {Y d i:Nat} (hY:Y < C ^ i) (hd:d < C):Y+d*C ^ i < C ^ (i+1):=by
 have h:(d+1)*C ^ i≤C*C ^ i:=Nat.mul_le_mul_right _ hd;rw [Nat.pow_succ,Nat.mul_comm (C ^ i) C];rw [Nat.add_mul] at h;omega
theorem WS {A D Y c n p q:Nat} (hA:A < C ^ p) (hD:D < C ^ q) (hn:p < n∧q < n) (hY:Y < C ^ n) (he:Y+c*C ^ n=A % C ^ n+D % C ^ n):Y=A+D:=by
 have h1:A < C ^ (n - 1):=Nat.lt_of_lt_of_le hA (Nat.pow_le_pow_right (by decide) (by omega))
 have J:D < C ^ (n - 1):=Nat.lt_of_lt_of_le hD (Nat.pow_le_pow_right (by decide) (by omega))
 have e:C ^ n=C ^ (n - 1)*256:=by rw [← Nat.pow_succ]; congr 1; omega
 have h3:A < C ^ n:=by omega
 have h4:D < C ^ n:=by omega
 rw [Nat.mod_eq_of_lt h3,Nat.mod_eq_of_lt h4] at he;have hc:c=0:=by
  rcases Nat.eq_zero_or_pos c with h | h
  ·exact h
  ·have:1*C ^ n≤c*C ^ n:=Nat.mul_le_mul_right _ h;omega
 subst hc;omega
theorem BY {n Y:Nat} (h:Y < C ^ n):nb (ab (be n Y))=nb Y:=by rw [Gm,Nat.mod_eq_of_lt h]
structure yP (A D j Y c:Nat):Prop where
 lt:Y < C ^ j
 eq:Y+c*C ^ j=A % C ^ j+D % C ^ j
theorem RL (A D:Nat):yP A D 0 0 0:=⟨by decide,by simp [Nat.mod_one]⟩
theorem Sg {A D j Y c t n:Nat} {g:Nat→List Value} (h:yP A D j Y c) (hg:mN g n j Y) (hj:j < n) (ht:t=c+bT A j+bT D j) :
  ∃ Y',yP A D (j+1) Y' (t / C)∧mN (fun r=>if r=n - (j+1) then [.int .u8 (t % C:Nat)] else g r) n (j+1) Y' :=
 have fE:t % C < C:=Nat.mod_lt _ (by decide)
 ⟨Y+t % C*C ^ j,⟨KD h.lt fE,S3 h.eq ht⟩,J2 hg hj h.lt fE⟩
theorem S4 {s t:ByteArray} {Y c n:Nat} {g:Nat→List Value} (h:yP (ab s) (ab t) n Y c) (hg:mN g n n Y) (hn:s.size < n∧t.size < n) :
  ∃ v:ByteArray,(⟨⟨bytesOf g 0 n⟩⟩:ByteArray)=v∧v.size=n∧nb (ab v)=nb (ab s+ab t) :=
 ⟨be n Y,Ki hg,wJ _ _,by rw [BY h.lt,WS (gn s) (gn t) hn h.lt h.eq]⟩
theorem FP {n:Int} (h:n < 0) (J:-9223372036854775808≤n):IntKind.i64.wrap (0 - n)=if n=-9223372036854775808 then n else -n:=by
 split
 ·rename_i e; subst e; decide
 ·rw [ay (by omega) (by omega)]; omega
theorem ZI:nb 9223372036854775808=⟨#[128,0,0,0,0,0,0,0]⟩:=by
 rw [xl (n:=8) (by decide) (.inr (by decide))]
 rfl
theorem VA:aH (-9223372036854775808)=.agg ⟨[.bool true,.string ⟨#[128,0,0,0,0,0,0,0]⟩]⟩:=by
 rw [← ZI]; rfl
theorem vT {n:Int} (h:n < 0):aH n=.agg ⟨[.bool true,.string (nb n.natAbs)]⟩:=by
 unfold aH;rw [decide_eq_true h]
theorem vU {n:Int} (h:0≤n):aH n=.agg ⟨[.bool false,.string (nb n.natAbs)]⟩:=by
 unfold aH;rw [decide_eq_false (by omega)]
theorem IV.aT {i:IV} (h:i.ok):Go.Ae.aT i.z.natAbs≤549755813888:=by
 unfold IV.z;rw [tV];exact Nat.le_trans (iZ i.2) h
theorem Ny {x y:Int} (hx:0≤x) (hy:0≤y):dO x y=cL x.natAbs y.natAbs:=by
 rw [← BF]; congr 1 <;> omega
theorem Nz {x y:Int} (hx:x < 0) (hy:y < 0):dO x y=cL y.natAbs x.natAbs:=by
 rw [← MH]; congr 1 <;> omega
open Go
structure yQ (A D j Y c:Nat):Prop where
 lt:Y < C ^ j
 eq:Y+D % C ^ j=A % C ^ j+c*C ^ j
theorem RM (A D:Nat):yQ A D 0 0 0:=⟨by decide,by simp [Nat.mod_one]⟩
theorem S5 {Y D A P c e d a c':Nat} (h:Y+D=A+c*P) (he:e+c+d=a+256*c') :
  Y+e*P+(D+d*P)=A+a*P+c'*(P*256):=by
 have J:(e+c+d)*P=(a+256*c')*P:=by rw [he]
 simp only [Nat.add_mul] at J;have h3:c'*(P*256)=256*c'*P:=by rw [Nat.mul_comm P,← Nat.mul_assoc,Nat.mul_comm c']
 omega
theorem A2 {A D j Y c e c' n:Nat} {g:Nat→List Value} (h:yQ A D j Y c) (hg:mN g n j Y) (hj:j < n) (he:e < C) (ht:e+c+bT D j=bT A j+256*c') :
  ∃ Y',yQ A D (j+1) Y' c'∧mN (fun r=>if r=n - (j+1) then [.int .u8 (e:Nat)] else g r) n (j+1) Y' :=
 ⟨Y+e*C ^ j,⟨KD h.lt he,by
  rw [wi A j,wi D j,Nat.pow_succ];exact S5 h.eq ht⟩,J2 hg hj h.lt he⟩
theorem S6 {s t:ByteArray} {Y c:Nat} {g:Nat→List Value} (h:yQ (ab s) (ab t) s.size Y c) (hle:ab t≤ab s) (hg:mN g s.size s.size Y) :
  ∃ v:ByteArray,(⟨⟨bytesOf g 0 s.size⟩⟩:ByteArray)=v∧v.size=s.size∧nb (ab v)=nb (ab s - ab t):=by
 refine ⟨be s.size Y,Ki hg,wJ _ _,?_⟩;rw [BY h.lt];have h1:=h.eq;have J:=h.lt;have h3:=gn s;rw [Nat.mod_eq_of_lt h3,Nat.mod_eq_of_lt (Nat.lt_of_le_of_lt hle h3)] at h1;have hc:c=0:=by
  rcases Nat.eq_zero_or_pos c with h | h
  ·exact h
  ·have:1*C ^ s.size≤c*C ^ s.size:=Nat.mul_le_mul_right _ h;omega
 subst hc
 congr 1
 omega
def qi (g:Nat→List Value) (n Z:Nat):Prop:=∀ r,r < n→g r=[.int .i64 ((bT Z (n - 1 - r):Nat):Int)]
theorem Sh (n:Nat):qi (fun _=>[.int .i64 0]) n 0:=fun r hr=>by rw [Vz]; rfl
theorem L7 {g:Nat→List Value} {n Z j d:Nat} (h:qi g n Z) (hj:j < n) (hd:d < C) :
  qi (fun r=>if r=n - 1 - j then [.int .i64 (d:Nat)] else g r) n (jZ Z j d):=fun r hr=>by
 rw [Nx hd];by_cases e:r=n - 1 - j
 ·simp only [if_pos e]; rw [if_pos (by omega)]
 ·simp only [if_neg e]; rw [if_neg (by omega)]; exact h r hr
structure yR (A D p m q Z c:Nat):Prop where
 lt:Z < C ^ (p+m)
 eq:Z+c*C ^ (p+q)=A % C ^ p*D+bT A p*(D % C ^ q)*C ^ p
structure yS (A D p m Z:Nat):Prop where
 lt:Z < C ^ (p+m)
 eq:Z=A % C ^ p*D
theorem RN (A D m:Nat):yS A D 0 m 0:=⟨gO _,by simp [Nat.mod_one]⟩
theorem RO {A D p m Z:Nat} (h:yS A D p m Z):yR A D p m 0 Z 0:=⟨h.lt,by simp [Nat.mod_one,h.eq]⟩
theorem Si {A D p m q Z c t n:Nat} {g:Nat→List Value} (h:yR A D p m q Z c) (hg:qi g n Z) (hq:q < m) (hn:p+m < n) (ht:t=c+(bT A p*bT D q+bT Z (p+q))) :
  ∃ Z',yR A D p m (q+1) Z' (t / C)∧qi (fun r=>if r=n - 1 - (p+q) then [.int .i64 (t % C:Nat)] else g r) n Z' :=
 have fE:t % C < C:=Nat.mod_lt _ (by decide)
 ⟨jZ Z (p+q) (t % C),⟨L6 h.lt (by omega) fE,Sf h.eq ht⟩,L7 hg (by omega) fE⟩
theorem S7 {A D p m Z c n:Nat} {g:Nat→List Value} (h:yR A D p m m Z c) (hD:D < C ^ m) (hg:qi g n Z) (hn:p+m < n) (hc:c < C) :
  (bT Z (p+m)=0)∧∃ Z',yS A D (p+1) m Z'∧qi (fun r=>if r=n - 1 - (p+m) then [.int .i64 (c:Nat)] else g r) n Z' :=
 ⟨Gs h.lt (Nat.le_refl _),jZ Z (p+m) c,⟨by
  rw [show p+1+m=p+m+1 by omega]
  exact L6 (Nat.lt_of_lt_of_le h.lt (Nat.pow_le_pow_right (by decide) (Nat.le_succ _))) (by omega) hc,S0 rfl hD h.lt h.eq⟩,L7 hg hn hc⟩
theorem S8 {A D p m Z:Nat} (h:yS A D p m Z) (hA:A < C ^ p):Z=A*D:=by rw [h.eq,Nat.mod_eq_of_lt hA]
def wE (g:Nat→List Value) (n i Z:Nat):Prop:=(∀ r,r < n→∃ x:Int,g r=[.int .u8 x])∧∀ r,r < i→g r=[.int .u8 ((bT Z (n - 1 - r):Nat):Int)]
theorem Ru (n Z:Nat):wE (fun _=>[.int .u8 0]) n 0 Z:=⟨fun r _=>⟨0,rfl⟩,fun r h=>absurd h (by omega)⟩
theorem Ry {g:Nat→List Value} {n i Z:Nat} (h:wE g n i Z) (hi:i < n) :
  wE (fun r=>if r=i then [.int .u8 (bT Z (n - 1 - i):Nat)] else g r) n (i+1) Z:=by
 refine ⟨fun r hr=>?_,fun r hr=>?_⟩
 ·by_cases e:r=i
  ·exact ⟨_,if_pos e⟩
  ·simp only [if_neg e]; exact h.1 r hr
 ·by_cases e:r=i
  ·subst e; simp
  ·simp only [if_neg e]; exact h.2 r (by omega)
theorem RP {g:Nat→List Value} {n Z:Nat} (h:wE g n n Z):(⟨⟨bytesOf g 0 n⟩⟩:ByteArray)=be n Z:=vZ fun r hr=>h.2 r hr
theorem RQ {g:Nat→List Value} {n Z:Nat} (h:wE g n n Z) (hZ:Z < C ^ n):∃ v:ByteArray,(⟨⟨bytesOf g 0 n⟩⟩:ByteArray)=v∧v.size=n∧nb (ab v)=nb Z :=
 ⟨be n Z,RP h,wJ _ _,BY hZ⟩
theorem S9 {c x y z t:Nat} (hc:c < C) (hx:x < C) (hy:y < C) (hz:z < C) (ht:t=c+(x*y+z)):t / C < C∧t < 65536:=by
 have:x*y≤255*255:=Nat.mul_le_mul (Nat.le_of_lt_succ hx) (Nat.le_of_lt_succ hy);have hc:c < 256:=hc;have hz:z < 256:=hz;have h:t < 65536:=by omega
 exact ⟨by show t / 256 < 256; omega,h⟩
theorem WT {c x y z t:Nat} (hc:c < C) (hx:x < C) (hy:y < C) (hz:z < C) (ht:t=c+(x*y+z)) :
  IntKind.i64.wrap ((c:Int)+IntKind.i64.wrap ((z:Int)+IntKind.i64.wrap (IntKind.i64.wrap (x:Int)*IntKind.i64.wrap (y:Int))))=(t:Int):=by
 have h:x*y≤255*255:=Nat.mul_le_mul (Nat.le_of_lt_succ hx) (Nat.le_of_lt_succ hy);have hc:c < 256:=hc;have hz:z < 256:=hz;have hx:x < 256:=hx;have hy:y < 256:=hy;have e:(x:Int)*(y:Int)=((x*y:Nat):Int):=by rw [Int.natCast_mul]
 rw [ay (x:=(x:Int)) (by omega) (by omega),ay (x:=(y:Int)) (by omega) (by omega),e,ay (x:=((x*y:Nat):Int)) (by omega) (by omega),ay (x:=(z:Int)+_) (by omega) (by omega),ay (by omega) (by omega)]
 omega
theorem WU {t:Nat} (h:t < 65536):((BitVec.ofInt IntKind.i64.bits (t:Int) &&& BitVec.ofInt IntKind.i64.bits 255).toNat:Int)=((t % C:Nat):Int):=by
 have e1:BitVec.ofInt IntKind.i64.bits (t:Int)=BitVec.ofNat 64 t:=by
  apply BitVec.eq_of_toNat_eq;show ((t:Int) % ((2 ^ 64:Nat):Int)).toNat=t % 2 ^ 64
  omega
 rw [e1];show (((t % 2 ^ 64) &&& 255:Nat):Int)=_
 have:(t % 2 ^ 64) &&& 255=t % 256:=by
  rw [show (255:Nat)=2 ^ 8 - 1 from rfl,Nat.and_two_pow_sub_one_eq_mod]
  omega
 rw [this]
theorem VB {s t:ByteArray}:ab s*ab t < C ^ (s.size+t.size):=by
 rw [Nat.pow_add];exact Nat.lt_of_le_of_lt (Nat.mul_le_mul_right _ (Nat.le_of_lt (gn s))) (Nat.mul_lt_mul_of_pos_left (gn t) (gO _))
theorem uK {e:Nat} (h:e < 256):IntKind.u8.wrap (e:Int)=(e:Int):=dD (by omega) (by omega)
structure w6 (s:ByteArray) (D i Q R:Nat):Prop where
 eq:ab s / C ^ (s.size - i)=Q*D+R
 lt:R < D
 q:Q < C ^ i
structure uc (D R' k d R:Nat):Prop where
 eq:R'=d*D+R
 lt:R < 2 ^ k*D
 d:d+2 ^ k≤256
theorem RR (s:ByteArray) {D:Nat} (hD:D≠0):w6 s D 0 0 0:=⟨by
 rw [Nat.sub_zero,Nat.div_eq_of_lt (gn s),Nat.zero_mul],Nat.pos_of_ne_zero hD,Nat.zero_lt_one⟩
theorem Rz {s:ByteArray} {D i Q R:Nat} (h:w6 s D i Q R) (hi:i < s.size):uc D (R*256+bZ s i) 8 0 (R*256+bZ s i) :=
 ⟨by omega,by
  have h1:bZ s i < 256:=we s i;have J:=h.lt;show _ < 256*D
  omega,by decide⟩
theorem Sj {D R' k d R:Nat} (h:uc D R' (k+1) d R) (hR:2 ^ k*D≤R):uc D R' k (d+2 ^ k) (R - 2 ^ k*D):=⟨by
 have:=h.eq;rw [Nat.add_mul];omega,by
 have:=h.lt;rw [Nat.pow_succ,Nat.mul_comm (2 ^ k) 2,Nat.mul_assoc] at this;omega,by
 have:=h.d;rw [Nat.pow_succ] at this;omega⟩
theorem Ta {D R' k d R:Nat} (h:uc D R' (k+1) d R) (hR:R < 2 ^ k*D):uc D R' k d R:=⟨h.eq,hR,by
 have:=h.d;rw [Nat.pow_succ] at this;omega⟩
theorem Sk {s:ByteArray} {D i Q R d R2:Nat} (h:w6 s D i Q R) (hi:i < s.size) (J:uc D (R*256+bZ s i) 0 d R2):w6 s D (i+1) (Q*256+d) R2:=⟨by
 rw [yr hi,h.eq,Nat.add_mul (Q*256),Nat.add_mul (Q*D)];have h3:=J.eq;have e:Q*256*D=Q*D*256:=by rw [Nat.mul_assoc,Nat.mul_comm 256,Nat.mul_assoc]
 rw [e,Nat.add_assoc,h3,Nat.add_assoc],by have:=J.lt; simpa using this,by
 have:=h.q;have h3:d < 256:=by have:=J.d; omega
 rw [Nat.pow_succ];show _ < C ^ i*256
 omega⟩
theorem Tb {s:ByteArray} {D Q R:Nat} (h:w6 s D s.size Q R):Q=ab s / D∧R=ab s % D:=by
 have h1:=h.eq;rw [Nat.sub_self,Nat.pow_zero,Nat.div_one] at h1;have J:=h.lt;refine ⟨?_,?_⟩
 ·rw [h1,Nat.mul_comm,Nat.mul_add_div (by omega),Nat.div_eq_of_lt J,Nat.add_zero]
 ·rw [h1,Nat.mul_comm,Nat.mul_add_mod,Nat.mod_eq_of_lt J]
def Bo (g:Nat→List Value) (i D:Nat):Prop:=(∀ r,r < 8→∃ x:ByteArray,g r=[.string x])∧∀ r,r < i→g r=[.string (nb (2 ^ r*D))]
theorem Rq (D:Nat):Bo (fun r=>if r=0 then [.string (nb D)] else [.string ⟨#[]⟩]) 1 D:=by
 refine ⟨fun r hr=>?_,fun r hr=>?_⟩
 ·by_cases e:r=0
  ·exact ⟨_,if_pos e⟩
  ·exact ⟨_,if_neg e⟩
 ·have e:r=0:=by omega
  subst e;simp
theorem Rv {g:Nat→List Value} {i D:Nat} (h:Bo g (i+1) D) (hi:i+1 < 8) {v:ByteArray} (hv:v=nb (2 ^ i*D+2 ^ i*D)) :
  Bo (fun r=>if r=i+1 then [.string v] else g r) (i+1+1) D:=by
 refine ⟨fun r hr=>?_,fun r hr=>?_⟩
 ·by_cases e:r=i+1
  ·exact ⟨_,if_pos e⟩
  ·simp only [if_neg e]; exact h.1 r hr
 ·by_cases e:r=i+1
  ·subst e;simp only [if_true];rw [hv,Nat.pow_succ,Nat.mul_comm (2 ^ i) 2,Nat.mul_assoc,Nat.two_mul]
  ·simp only [if_neg e]; exact h.2 r (by omega)
theorem Fo {D k:Nat} (hk:k≤8):aT (2 ^ k*D)≤aT D+1:=gE (by
 have h1:=kU D;have J:2 ^ k≤2 ^ 8:=Nat.pow_le_pow_right (by decide) hk
 rw [Nat.pow_succ,Nat.mul_comm (C ^ _)];exact Nat.lt_of_le_of_lt (Nat.mul_le_mul_right _ J) (Nat.mul_lt_mul_of_pos_left h1 (by decide)))
theorem adO {k:Nat} (h:k≤7):IntKind.i64.wrap (1*2 ^ min (Int.toNat (IntKind.u64.wrap (k:Int))) IntKind.i64.bits)=((2 ^ k:Nat):Int):=by
 rcases k with _ | _ | _ | _ | _ | _ | _ | _ | k
 all_goals first | rfl | decide | omega
theorem Ur (R:Nat) {s:ByteArray} {i:Nat} (h:i < s.size):ab (nb R++s.extract i (i+1))=R*256+bZ s i∧(nb R++s.extract i (i+1)).size=aT R+1:=by
 have e:=D9 (s:=s) (l:=i) (h:=i+1) (by omega) (by omega)
 refine ⟨?_,by rw [ByteArray.size_append,gy,e]; omega⟩
 rw [Sb,g8,e,Eo (by omega) (by omega),tN h]
 rw [show i+1 - i=1 by omega,Nat.pow_one,show s.size - (i+1)=s.size - 1 - i by omega]
def zg (g:Nat→List Value) (n i Q:Nat):Prop:=(∀ r,r < n→∃ x:Int,g r=[.int .u8 x])∧∀ r,r < i→g r=[.int .u8 ((bT Q (i - 1 - r):Nat):Int)]
theorem Sl (n:Nat):zg (fun _=>[.int .u8 0]) n 0 0:=⟨fun r _=>⟨0,rfl⟩,fun r h=>absurd h (by omega)⟩
theorem ML {Q d:Nat} (hd:d < 256) (r:Nat):bT (Q*256+d) (r+1)=bT Q r∧bT (Q*256+d) 0=d:=by
 unfold bT;have e:(Q*256+d) / 256=Q:=by omega
 refine ⟨?_,?_⟩
 ·rw [Nat.pow_succ,Nat.mul_comm (C ^ r) C,← Nat.div_div_eq_div_mul];show (Q*256+d) / 256 / _ % _=_
  rw [e]
 ·rw [Nat.pow_zero,Nat.div_one];show _ % 256=_
  omega
theorem Tc {g:Nat→List Value} {n i Q d:Nat} (h:zg g n i Q) (hi:i < n) (hd:d < 256) :
  zg (fun r=>if r=i then [.int .u8 (d:Nat)] else g r) n (i+1) (Q*256+d):=by
 refine ⟨fun r hr=>?_,fun r hr=>?_⟩
 ·by_cases e:r=i
  ·exact ⟨_,if_pos e⟩
  ·simp only [if_neg e]; exact h.1 r hr
 ·by_cases e:r=i
  ·subst e; simp only [if_true];rw [show r+1 - 1 - r=0 by omega,(ML hd 0).2]
  ·simp only [if_neg e];rw [h.2 r (by omega),show i+1 - 1 - r=(i - 1 - r)+1 by omega,(ML hd _).1]
theorem Us {g:Nat→List Value} {n Q:Nat} (h:zg g n n Q) (hQ:Q < C ^ n):∃ v:ByteArray,(⟨⟨bytesOf g 0 n⟩⟩:ByteArray)=v∧v.size=n∧nb (ab v)=nb Q :=
 ⟨be n Q,vZ fun r hr=>h.2 r hr,wJ _ _,BY hQ⟩
open Go
theorem wO {B:Bool} {N:Nat} {z:Int} (h1:B=decide (z < 0)) (J:N=z.natAbs):Value.agg ⟨[.bool B,.string (nb N)]⟩=aH z:=by
 subst h1; subst J; rfl
structure EI (z:Int) (B:Bool) (m:ByteArray):Prop where
 enc:aH z=.agg ⟨[.bool B,.string m]⟩
 sign:B=decide (z < 0)
 nt:m=nb z.natAbs
theorem EI.mk' (z:Int):∃ B m,EI z B m:=⟨_,_,rfl,rfl,rfl⟩
theorem EI.abs {z:Int} {B:Bool} {m:ByteArray} (h:EI z B m):ab m=z.natAbs:=by rw [h.nt,g8]
theorem EI.val {z:Int} {B:Bool} {m:ByteArray} (h:EI z B m):IV.z (B,m)=z:=by
 rw [h.sign,h.nt]; exact Oh z
theorem EI.nil {z:Int} {B:Bool} {m:ByteArray} (h:EI z B m):(m.toList == (⟨#[]⟩:ByteArray).toList)=decide (z=0):=by
 have e:=FO z.natAbs;rw [← h.nt] at e;have e2:(m.toList == (⟨#[]⟩:ByteArray).toList)=!(z.natAbs != 0):=by rw [← e,Bool.not_not]
 rw [e2];by_cases hz:z=0
 ·subst hz; rfl
 ·have:z.natAbs≠0:=by omega
  rw [decide_eq_false hz];simp [this]
theorem EI.nn {z:Int} {B:Bool} {m:ByteArray} (h:EI z B m):(!(m.toList == (⟨#[]⟩:ByteArray).toList))=decide (z≠0):=by
 rw [h.nil]; by_cases hz:z=0 <;> simp [hz]
theorem EI.size {z:Int} {B:Bool} {m:ByteArray} (h:EI z B m):m.size=aT z.natAbs:=by rw [h.nt,gy]
theorem EI.eta {z:Int} {B:Bool} {m:ByteArray} (h:EI z B m):m=nb (ab m):=by rw [h.abs,h.nt]
theorem EI.small {z:Int} {B:Bool} {m:ByteArray} (h:EI z B m) (h7:m.size≤7):-72057594037927936 < z∧z < 72057594037927936:=by
 have:=Gr (i:=(B,m)) h7;rw [h.val] at this;exact this
theorem EI.same {x y:Int} {B D:Bool} {m k:ByteArray} (h:EI x B m) (J:EI y D k) (e:B=D):Value.agg ⟨[.bool B,.string (nb (ab m+ab k))]⟩=aH (x+y):=by
 have h3:=h.sign;have h4:=J.sign;rw [← e] at h4;refine wO ?_ ?_
 ·cases B
  ·have:=of_decide_eq_false h3.symm;have:=of_decide_eq_false h4.symm;exact (decide_eq_false (by omega)).symm
  ·have:=of_decide_eq_true h3.symm;have:=of_decide_eq_true h4.symm;exact (decide_eq_true (by omega)).symm
 ·rw [h.abs,J.abs];cases B
  ·have:=of_decide_eq_false h3.symm;have:=of_decide_eq_false h4.symm;omega
  ·have:=of_decide_eq_true h3.symm;have:=of_decide_eq_true h4.symm;omega
theorem EI.differ {x y:Int} {B D:Bool} {m k:ByteArray} (h:EI x B m) (J:EI y D k) (e:B≠D) (al:ab k < ab m):Value.agg ⟨[.bool B,.string (nb (ab m - ab k))]⟩=aH (x+y):=by
 have h3:=h.sign;have h4:=J.sign;rw [h.abs,J.abs] at al ⊢;cases B <;> cases D
 ·exact absurd rfl e
 ·have:=of_decide_eq_false h3.symm;have:=of_decide_eq_true h4.symm;exact wO (decide_eq_false (by omega)).symm (by omega)
 ·have:=of_decide_eq_true h3.symm;have:=of_decide_eq_false h4.symm;exact wO (decide_eq_true (by omega)).symm (by omega)
 ·exact absurd rfl e
theorem EI.equal {x y:Int} {B D:Bool} {m k:ByteArray} (h:EI x B m) (J:EI y D k) (e:B≠D) (al:ab k=ab m):x+y=0:=by
 have h3:=h.sign;have h4:=J.sign;rw [h.abs,J.abs] at al;cases B <;> cases D
 ·exact absurd rfl e
 ·have:=of_decide_eq_false h3.symm;have:=of_decide_eq_true h4.symm;omega
 ·have:=of_decide_eq_true h3.symm;have:=of_decide_eq_false h4.symm;omega
 ·exact absurd rfl e
theorem EI.mul {x y:Int} {B D:Bool} {m k:ByteArray} (h:EI x B m) (J:EI y D k) (hx:x≠0) (hy:y≠0):Value.agg ⟨[.bool (B != D),.string (nb (ab m*ab k))]⟩=aH (x*y):=by
 have h3:=h.sign;have h4:=J.sign;rw [h.abs,J.abs];refine wO ?_ (by rw [Int.natAbs_mul])
 have hm:x*y < 0↔¬ ((x < 0)↔(y < 0)):=by
  rcases Int.lt_or_gt_of_ne hx with a | a <;> rcases Int.lt_or_gt_of_ne hy with b | b
  ·have:=Int.mul_pos_of_neg_of_neg a b;constructor
   ·intro; omega
   ·intro h; exact absurd ⟨fun _=>b,fun _=>a⟩ h
  ·have:=Int.mul_neg_of_neg_of_pos a b;constructor
   ·intro _ h; have:=h.1 a; omega
   ·intro; exact this
  ·have:=Int.mul_neg_of_pos_of_neg a b;constructor
   ·intro _ h; have:=h.2 b; omega
   ·intro; exact this
  ·have:=Int.mul_pos a b;constructor
   ·intro; omega
   ·intro h; exact absurd ⟨fun q=>by omega,fun q=>by omega⟩ h
 rw [h3,h4];by_cases a:x < 0 <;> by_cases b:y < 0 <;> simp [a,b,hm]
theorem EI.a9 {z:Int} {B:Bool} {m:ByteArray} (h:EI z B m):Go.Ae.a9 B (ab m)=z:=h.val
theorem FQ {x y zq zr:Int} {B D:Bool} {m k:ByteArray} (hE:EI x B m) (hF:EI y D k) (hy:y≠0) (h:B=D) (hq:zq=((ab m / ab k:Nat):Int)) (hr:zr=((ab m % ab k:Nat):Int)) :
  zq=Int.fdiv x y∧(if D=true then -zr else zr)=Int.fmod x y:=by
 have hk:0 < ab k:=by rw [hF.abs]; omega
 obtain ⟨h1,J⟩:=wh (b:=B) (c:=D) (A:=ab m) hk (.inr h);rw [hE.a9,hF.a9] at h1 J;rw [h1,J,hq,hr,h];cases D <;> exact ⟨rfl,rfl⟩
theorem Fp {x y zq zr:Int} {B D:Bool} {m k:ByteArray} (hE:EI x B m) (hF:EI y D k) (hy:y≠0) (h:B≠D) (hq:zq=((ab m / ab k:Nat):Int)) (hr:zr=((ab m % ab k:Nat):Int)) (h0:zr=0) :
  -zq=Int.fdiv x y∧(if D=true then -zr else zr)=Int.fmod x y:=by
 have hk:0 < ab k:=by rw [hF.abs]; omega
 have h3:ab m % ab k=0:=by rw [h0] at hr; omega
 obtain ⟨h1,J⟩:=wh (b:=B) (c:=D) (A:=ab m) hk (.inl h3);rw [hE.a9,hF.a9] at h1 J;rw [h1,J,hq,h0,h3];refine ⟨?_,?_⟩
 ·cases B <;> cases D
  ·exact absurd rfl h
  ·rfl
  ·rfl
  ·exact absurd rfl h
 ·cases B <;> cases D <;> rfl
theorem FR {x y zq zr:Int} {B D:Bool} {m k:ByteArray} (hE:EI x B m) (hF:EI y D k) (hy:y≠0) (h:B≠D) (hq:zq=((ab m / ab k:Nat):Int)) (hr:zr=((ab m % ab k:Nat):Int)) (h0:zr≠0) :
  -zq - 1=Int.fdiv x y∧(if D=true then -(((ab k:Nat):Int) - zr) else ((ab k:Nat):Int) - zr)=Int.fmod x y:=by
 have hk:0 < ab k:=by rw [hF.abs]; omega
 obtain ⟨h1,J⟩:=ES (b:=B) (c:=D) (A:=ab m) hk (by omega) h
 rw [hE.a9,hF.a9] at h1;rw [hE.a9] at J;rw [hF.a9] at J;rw [h1,J,hq,hr];refine ⟨?_,?_⟩
 ·cases B <;> cases D
  ·exact absurd rfl h
  ·rfl
  ·rfl
  ·exact absurd rfl h
 ·have hv:=hF.a9;cases B <;> cases D
  ·exact absurd rfl h
  ·rw [← hv]; unfold Go.Ae.a9; simp only [if_true]; simp; omega
  ·rw [← hv]; unfold Go.Ae.a9; simp only [if_true]; simp; omega
  ·exact absurd rfl h
theorem EI.iO {z:Int} (h:0≤z):∃ m,EI z false m:=⟨_,(wO (decide_eq_false (by omega)).symm rfl).symm,(decide_eq_false (by omega)).symm,rfl⟩
theorem MM {n:Nat} (h:n < 72057594037927936):IntKind.i64.wrap (n:Int)=n:=ay (by omega) (by omega)
theorem RA {x y:Int} (h:aT x.natAbs+aT y.natAbs < 8):-9223372036854775808≤x*y∧x*y < 9223372036854775808:=by
 have h1:=kU x.natAbs;have J:=kU y.natAbs;have h3:x.natAbs*y.natAbs < C ^ (aT x.natAbs+aT y.natAbs):=by
  rw [Nat.pow_add];exact Nat.lt_of_le_of_lt (Nat.mul_le_mul_right _ (Nat.le_of_lt h1)) (Nat.mul_lt_mul_of_pos_left J (gO _))
 have h4:=nT (i:=aT x.natAbs+aT y.natAbs) (by omega)
 rw [← Int.natAbs_mul] at h3;omega
open Go
def fy (d:Nat):ByteArray:=if d=1 then ⟨#[]⟩ else nb d
def bK (q:Rat):Value:=.agg ⟨[.bool (decide (q.num < 0)),.string (nb q.num.natAbs),.string (fy q.den)]⟩
abbrev RV:=Bool × ByteArray × ByteArray
def RV.v (i:RV):Value:=.agg ⟨[.bool i.1,.string i.2.1,.string i.2.2]⟩
def RV.n (i:RV):Int:=a9 i.1 (ab i.2.1)
def RV.d (i:RV):Nat:=if ab i.2.2=0 then 1 else ab i.2.2
def RV.q (i:RV):Rat:=mkRat i.n i.d
def RV.ok (i:RV):Prop:=i.2.1.size≤8589934592∧i.2.2.size≤8589934592
def RV.of (q:Rat):RV:=(decide (q.num < 0),nb q.num.natAbs,fy q.den)
theorem RV.jF (i:RV):i.d≠0:=by
 unfold RV.d
 split <;> omega
theorem Ut {d:Nat} (h:d≠0):(if ab (fy d)=0 then 1 else ab (fy d))=d:=by
 unfold fy
 split
 ·rename_i e; rw [e]; rfl
 ·rw [g8,if_neg h]
theorem RV.PF (q:Rat):(RV.of q).n=q.num:=by
 exact Oh q.num
theorem RV.PG (q:Rat):(RV.of q).d=q.den:=Ut q.den_nz
theorem RV.ic (q:Rat):(RV.of q).q=q:=by
 unfold RV.q;rw [RV.PF,RV.PG,Rat.mkRat_self]
theorem GX (n:Int) {d:Nat} (h:d≠0):n.fdiv ((Int.gcd n d:Nat):Int)=(mkRat n d).num:=by
 rw [Rat.num_mkRat,if_neg h,Int.fdiv_eq_ediv_of_nonneg _ (by omega)]
 rw [Int.gcd_comm]; rfl
theorem GY (n:Int) {d:Nat} (h:d≠0):((d:Nat):Int).fdiv ((Int.gcd n d:Nat):Int)=(((mkRat n d).den:Nat):Int):=by
 rw [Rat.den_mkRat,if_neg h,Int.fdiv_eq_ediv_of_nonneg _ (by omega),Int.natCast_ediv]
 rw [Int.gcd_comm]; rfl
theorem ZJ (n:Int) {d:Nat} (h:d≠0):(mkRat n d).num.natAbs≤n.natAbs:=by
 rw [Rat.num_mkRat,if_neg h];exact Int.natAbs_ediv_le_natAbs n _
theorem Oi (n:Int) {d:Nat} (h:d≠0):(mkRat n d).den≤d:=by
 rw [Rat.den_mkRat,if_neg h];exact Nat.div_le_self _ _
def QB (q:Rat) (k:Nat):Prop:=aT q.num.natAbs≤k∧aT q.den≤k
theorem wP (a b:Nat):aT (a*b)≤aT a+aT b:=gE (by
 rw [Nat.pow_add];exact Nat.lt_of_le_of_lt (Nat.mul_le_mul_right _ (Nat.le_of_lt (kU a))) (Nat.mul_lt_mul_of_pos_left (kU b) (gO _)))
theorem NA {a b k:Nat} (ha:aT a≤k) (hb:aT b≤k):aT (a+b)≤k+1:=gE (by
 have h1:=Nat.lt_of_lt_of_le (kU a) (Nat.pow_le_pow_right (n:=C) (by decide) ha)
 have J:=Nat.lt_of_lt_of_le (kU b) (Nat.pow_le_pow_right (n:=C) (by decide) hb)
 rw [Nat.pow_succ];show _ < C ^ k*256
 omega)
theorem QB.mk {n:Int} {d k:Nat} (hd:d≠0) (h1:aT n.natAbs≤k) (J:aT d≤k):QB (mkRat n d) k :=
 ⟨Nat.le_trans (iK (ZJ n hd)) h1,Nat.le_trans (iK (Oi n hd)) J⟩
theorem QB.mono {q:Rat} {k l:Nat} (h:QB q k) (hl:k≤l):QB q l:=⟨Nat.le_trans h.1 hl,Nat.le_trans h.2 hl⟩
theorem QB.add {p q:Rat} {k l:Nat} (hp:QB p k) (hq:QB q l):QB (p+q) (k+l+1):=by
 rw [Rat.add_def'];refine QB.mk (Nat.mul_ne_zero p.den_nz q.den_nz) ?_ ?_
 ·have h1:aT (p.num*q.den).natAbs≤k+l:=by
   rw [Int.natAbs_mul]; exact Nat.le_trans (wP _ _) (Nat.add_le_add hp.1 hq.2)
  have J:aT (q.num*p.den).natAbs≤k+l:=by
   rw [Int.natAbs_mul]; exact Nat.le_trans (wP _ _) (by rw [Nat.add_comm k]; exact Nat.add_le_add hq.1 hp.2)
  exact Nat.le_trans (iK (Int.natAbs_add_le _ _)) (NA h1 J)
 ·exact Nat.le_trans (wP _ _) (Nat.le_succ_of_le (Nat.add_le_add hp.2 hq.2))
theorem QB.neg {p:Rat} {k:Nat} (hp:QB p k):QB (-p) k:=⟨by rw [Rat.neg_num,Int.natAbs_neg]; exact hp.1,hp.2⟩
theorem QB.sub {p q:Rat} {k l:Nat} (hp:QB p k) (hq:QB q l):QB (p - q) (k+l+1):=by
 rw [Rat.sub_eq_add_neg]; exact hp.add hq.neg
theorem QB.mul {p q:Rat} {k l:Nat} (hp:QB p k) (hq:QB q l):QB (p*q) (k+l):=by
 rw [Rat.mul_def'];refine QB.mk (Nat.mul_ne_zero p.den_nz q.den_nz) ?_ (Nat.le_trans (wP _ _) (Nat.add_le_add hp.2 hq.2));rw [Int.natAbs_mul]; exact Nat.le_trans (wP _ _) (Nat.add_le_add hp.1 hq.1)
theorem RV.qb {i:RV} {k:Nat} (h1:i.2.1.size≤k) (J:i.2.2.size≤k) (hk:1≤k):QB i.q k:=by
 refine QB.mk i.jF ?_ ?_
 ·unfold RV.n;rw [tV];exact Nat.le_trans (iZ _) h1
 ·unfold RV.d
  split
  ·exact Nat.le_trans (gE (show 1 < C ^ 1 by decide)) hk
  ·exact Nat.le_trans (iZ _) J
theorem L8 {d k:Nat} (h:aT d≤k):(fy d).size≤k:=by
 unfold fy
 split
 ·exact Nat.zero_le _
 ·rw [gy]; exact h
theorem RV.r9 {q:Rat} (h:QB q 8589934592):(RV.of q).ok:=⟨by show (nb _).size≤_; rw [gy]; exact h.1,L8 h.2⟩
open Go
def xm (n d:IV):Value:=.agg ⟨[.bool n.1,.string n.2,.bool d.1,.string d.2]⟩
def gR:bF:={ ι:=IV × Int,args:=fun i=>[i.1.v,.int .i64 i.2],pre:=fun i=>i.1.ok∧-9223372036854775808≤i.2∧i.2 < 9223372036854775808,val:=fun i=>.bool (decide (i.1.z=i.2)) }
def MN:bF:={ ι:=IV,args:=fun i=>[.bool i.1,.string i.2],pre:=fun _=>True,val:=fun i=>i.v }
def RV.den (i:RV):ByteArray:=if ab i.2.2=0 then nb 1 else i.2.2
def lz:bF:={ ι:=RV,args:=fun i=>[i.v],pre:=fun i=>i.2.2.size≤549755813888,val:=fun i=>xm (i.1,i.2.1) (false,i.den) }
def oF:bF:={ ι:=IV × IV,args:=fun i=>[xm i.1 i.2],pre:=fun i=>i.1.ok∧i.2.ok∧0 < i.2.z,val:=fun i=>bK (mkRat i.1.z i.2.z.natAbs) }
def pS:bF:={ ι:=IV × IV,args:=fun i=>[i.1.v,i.2.v],pre:=fun i=>i.1.ok∧i.2.ok∧0 < i.2.z,val:=fun i=>bK (mkRat i.1.z i.2.z.natAbs) }
def RV.fK (i:RV):Prop:=i.2.1.size≤3∧i.2.2.size≤3
instance (i:RV):Decidable i.fK:=inferInstanceAs (Decidable (_∧_))
def bG:bF:={ ι:=RV,args:=fun i=>[i.v],pre:=fun _=>True,val:=fun i=>.tuple ⟨[.int .i64 (if i.fK then i.n else 0),.int .i64 (if i.fK then (i.d:Int) else 0),.bool (decide i.fK)]⟩ }
def sf:bF:={ ι:=Nat,args:=fun n=>[.int .i64 n],pre:=fun n=>n < 72057594037927936,val:=fun n=>.string (nb n) }
def nG:bF:={ ι:=Int × Nat,args:=fun i=>[.int .i64 i.1,.int .i64 i.2],pre:=fun i=>i.1.natAbs < 72057594037927936∧i.2≠0∧i.2 < 72057594037927936,val:=fun i=>bK (mkRat i.1 i.2) }
def nH:bF:={ ι:=RV,args:=fun i=>[i.v],pre:=RV.ok,val:=fun i=>.tuple ⟨[aH i.n,aH i.d]⟩ }
abbrev nv:=RV × RV
def nv.ok (i:nv):Prop:=i.1.ok∧i.2.ok
def a8 (p q:Rat):Int:=if p < q then -1 else if q < p then 1 else 0
def kY:bF:={ ι:=nv,args:=fun i=>[i.1.v,i.2.v],pre:=nv.ok,val:=fun i=>bK (i.1.q+i.2.q) }
def gH:bF:={ ι:=nv,args:=fun i=>[i.1.v,i.2.v],pre:=nv.ok,val:=fun i=>bK (i.1.q - i.2.q) }
def kZ:bF:={ ι:=nv,args:=fun i=>[i.1.v,i.2.v],pre:=nv.ok,val:=fun i=>bK (i.1.q*i.2.q) }
def jG:bF:={ ι:=nv,args:=fun i=>[i.1.v,i.2.v],pre:=nv.ok,val:=fun i=>.int .i64 (a8 i.1.q i.2.q) }
def yT:bF:={ ι:=RV,args:=fun i=>[i.v],pre:=RV.ok,val:=fun i=>bK i.q }
def mo:bF:={ ι:=Int,args:=fun n=>[.int .i64 n],pre:=fun n=>-9223372036854775808≤n∧n < 9223372036854775808,val:=fun n=>bK (n:Rat) }
theorem RV.GZ {i:RV} (h:i.fK):-16777216 < i.n∧i.n < 16777216:=by
 have h1:=gn i.2.1;have J:C ^ i.2.1.size≤C ^ 3:=Nat.pow_le_pow_right (by decide) h.1
 have h3:ab i.2.1 < 16777216:=Nat.lt_of_lt_of_le h1 J;unfold RV.n;unfold a9
 split <;> omega
theorem RV.G0 {i:RV} (h:i.fK):0 < i.d∧i.d < 16777216:=by
 have h1:=gn i.2.2;have J:C ^ i.2.2.size≤C ^ 3:=Nat.pow_le_pow_right (by decide) h.2
 have h3:ab i.2.2 < 16777216:=Nat.lt_of_lt_of_le h1 J;unfold RV.d
 split <;> omega
theorem RV.jH (i:RV):IV.z (false,i.den)=((i.d:Nat):Int):=by
 show ((ab i.den:Nat):Int)=_
 unfold RV.den RV.d
 split
 ·rw [g8]
 ·rfl
theorem RV.rK (i:RV):i.den.size≤i.2.2.size+1:=by
 unfold RV.den
 split
 ·exact Nat.le_trans GW (Nat.le_add_left _ _)
 ·exact Nat.le_succ _
theorem RV.adP (i:RV):i.q=mkRat i.n (IV.z (false,i.den)).natAbs:=by rw [RV.jH]; rfl
theorem KE {a b:Int} (h1:-16777216 < a∧a < 16777216) (J:0 < b∧b < 16777216):-281474976710656 < a*b∧a*b < 281474976710656:=by
 have h3:(a*b).natAbs≤16777215*16777215:=by
  rw [Int.natAbs_mul];exact Nat.mul_le_mul (by omega) (by omega)
 omega
theorem Hv (a b:RV):a.q+b.q=mkRat (a.n*b.d+b.n*a.d) (a.d*b.d):=Rat.mkRat_add_mkRat _ _ a.jF b.jF
theorem Hw (a b:RV):a.q*b.q=mkRat (a.n*b.n) (a.d*b.d):=Rat.mkRat_mul_mkRat _ _ _ _
theorem yt (i:RV):i.q=(i.n:Rat) / ((i.d:Nat):Rat):=Rat.mkRat_eq_div _ _
theorem natCast_pos {d:Nat} (h:d≠0):(0:Rat) < ((d:Nat):Rat):=by
 have:((0:Nat):Rat) < ((d:Nat):Rat):=Rat.natCast_lt_natCast.2 (by omega)
 exact this
theorem adQ (a b:RV):a.q < b.q↔a.n*b.d < b.n*a.d:=by
 have ha:=natCast_pos a.jF;have hb:=natCast_pos b.jF;have e:a.q < b.q↔(a.n:Rat)*((b.d:Nat):Rat) < (b.n:Rat)*((a.d:Nat):Rat):=by
  rw [yt,yt,Rat.div_lt_iff ha];rw [show (b.n:Rat) / ((b.d:Nat):Rat)*((a.d:Nat):Rat)=((b.n:Rat)*((a.d:Nat):Rat)) / ((b.d:Nat):Rat) by
   rw [Rat.div_def,Rat.div_def]; grind]
  rw [Rat.lt_div_iff hb]
 rw [e,← Rat.intCast_natCast,← Rat.intCast_natCast,← Rat.intCast_mul,← Rat.intCast_mul,Rat.intCast_lt_intCast]
theorem CN (a b:RV):a8 a.q b.q=dO (a.n*b.d) (b.n*a.d):=by
 unfold a8 dO;simp only [adQ]
theorem acb (i:RV):-i.q=RV.q (!i.1,i.2):=by
 show -mkRat i.n i.d=mkRat (a9 (!i.1) (ab i.2.1)) i.d
 rw [FN,Rat.neg_mkRat]
 rfl
theorem ic (n:Int):((n:Int):Rat)=mkRat n 1:=by
 have h:=Rat.mkRat_self ((n:Int):Rat);rw [Rat.num_intCast,Rat.den_intCast] at h;exact h.symm
theorem PH {n e:Nat} (k:Int) (hk:k=((8*e:Nat):Int)) (he:e≤7):Int.fdiv (n:Int) (2 ^ min (Int.toNat k) IntKind.i64.bits)=((n / C ^ e:Nat):Int):=by
 subst hk;have e1:min (Int.toNat ((8*e:Nat):Int)) IntKind.i64.bits=8*e:=by
  show min (8*e) 64=8*e
  omega
 rw [e1];have e2:(2:Int) ^ (8*e)=((C ^ e:Nat):Int):=by
  rw [show C=2 ^ 8 from rfl,← Nat.pow_mul,Int.natCast_pow]; rfl
 rw [e2,Int.fdiv_eq_ediv_of_nonneg _ (Int.natCast_nonneg _),Int.natCast_ediv]
theorem acd {n:Nat} (h:n < 72057594037927936):n / C ^ 7=0:=Nat.div_eq_of_lt h
theorem WV {P d m:Nat} (h:P < C ^ m) (hd:d < 256):P*256+d < C ^ (m+1):=by
 rw [Nat.pow_succ];show _ < C ^ m*256
 omega
theorem WW {P d m:Nat} (h:C ^ (m - 1)≤P) (hm:1≤m):C ^ (m+1 - 1)≤P*256+d:=by
 rw [show m+1 - 1=m - 1+1 by omega,Nat.pow_succ]
 show C ^ (m - 1)*256≤_
 omega
theorem L9 {P Q D m:Nat} {g:Nat→List Value} (h:P=Q*256+D) (hD:D < 256) (hg:∀ r,r < m→g r=[.int .u8 ((Q / C ^ (m - 1 - r) % C:Nat):Int)]) (r:Nat) (hr:r < m+1) :
  iA g m (fun j=>[[Value.int .u8 ((P % C:Nat):Int)]].getD j []) r=[.int .u8 ((P / C ^ (m+1 - 1 - r) % C:Nat):Int)]:=by
 by_cases h1:r < m
 ·rw [ja h1,hg r h1,show m+1 - 1 - r=(m - 1 - r)+1 by omega,Nat.pow_succ,Nat.mul_comm (C ^ _) C,← Nat.div_div_eq_div_mul,show P / C=Q by rw [h]; show (Q*256+D) / 256=Q; omega]
 ·obtain rfl:r=m:=by omega
  rw [gm (Nat.le_refl _),Nat.sub_self,show r+1 - 1 - r=0 by omega,Nat.pow_zero,Nat.div_one]
  rfl
theorem Gu {n:Int} {d g:Nat} (hn:n≠0) (hd:d≠0) (hg:g=Int.gcd n d):bK (mkRat n d)=.agg ⟨[.bool (decide (n < 0)),.string (nb (n.natAbs / g)),.string (fy (d / g))]⟩:=by
 have nw:0 < g:=by
  rw [hg]; exact Int.gcd_pos_of_ne_zero_left _ hn
 have e1:(mkRat n d).num=n / (g:Int):=by rw [← GX n hd,← hg,Int.fdiv_eq_ediv_of_nonneg _ (by omega)]
 have e2:(mkRat n d).den=d / g:=by
  have:=GY n hd;rw [← hg,Int.fdiv_eq_ediv_of_nonneg _ (by omega),← Int.natCast_ediv] at this
  exact (Int.ofNat_inj.1 this).symm
 have DL:(g:Int) ∣ n:=by rw [hg]; exact Int.gcd_dvd_left ..
 obtain ⟨q,hq⟩:=DL;have e3:n / (g:Int)=q:=by rw [hq]; exact Int.mul_ediv_cancel_left _ (by omega)
 have e4:n.natAbs / g=q.natAbs:=by
  rw [hq,Int.natAbs_mul,Int.natAbs_natCast]; exact Nat.mul_div_cancel_left _ nw
 have e5:n < 0↔q < 0:=by
  rw [hq];constructor
  ·intro h;rcases Int.lt_or_le q 0 with J | J
   ·exact J
   ·have:=Int.mul_nonneg (show (0:Int)≤g by omega) J
    omega
  ·intro h; exact Int.mul_neg_of_pos_of_neg (by omega) h
 unfold bK;rw [e1,e2,e3,e4];rw [show decide (n < 0)=decide (q < 0) from by simp only [e5]]
theorem yk (d:Nat):bK (mkRat 0 d)=.agg ⟨[.bool false,.string ⟨#[]⟩,.string ⟨#[]⟩]⟩:=by
 rw [Rat.zero_mkRat];show Value.agg ⟨[.bool false,.string (nb 0),.string (fy 1)]⟩=_
 rw [pQ]
 rfl
theorem VC {a b:Int}:Int.gcd b (a.tmod b)=Int.gcd a b:=by
 show Nat.gcd b.natAbs (a.tmod b).natAbs=Nat.gcd a.natAbs b.natAbs
 rw [Int.natAbs_tmod,Nat.gcd_comm,← Nat.gcd_rec,Nat.gcd_comm]
theorem NB (a:Int) (h:-72057594037927936 < a∧a < 72057594037927936):(if IntKind.i64.wrap (0 - a) > a then IntKind.i64.wrap (0 - a) else a)=((a.natAbs:Nat):Int):=by
 rw [ay (x:=0 - a) (by omega) (by omega)]
 split <;> omega
theorem Bp {a g:Nat} (h:a < 72057594037927936):IntKind.i64.wrap (Int.tdiv (a:Int) (g:Int))=((a / g:Nat):Int):=by
 rw [FM]; exact MM (Nat.lt_of_le_of_lt (Nat.div_le_self _ _) h)
theorem AR {n:Int} {d g:Nat} (hd:d≠0) (hg:g=Int.gcd n d):(d / g=1↔d=g)∧1≤d / g∧g≠0:=by
 have DL:g ∣ d:=by
  have:((g:Nat):Int) ∣ (d:Int):=by rw [hg]; exact Int.gcd_dvd_right ..
  exact Int.natCast_dvd_natCast.1 this
 have nw:0 < g:=Nat.pos_of_dvd_of_pos DL (Nat.pos_of_ne_zero hd);obtain ⟨q,rfl⟩:=DL;rw [Nat.mul_div_cancel_left _ nw];have hq:q≠0:=by intro e; subst e; exact hd (Nat.mul_zero _)
 refine ⟨⟨fun h=>by rw [h,Nat.mul_one],fun h=>?_⟩,by omega,by omega⟩
 have:g*q=g*1:=by rw [Nat.mul_one]; exact h
 exact Nat.eq_of_mul_eq_mul_left nw this
theorem r0:-9223372036854775808≤(0:Int)∧(0:Int) < 9223372036854775808:=by decide
theorem r1:-9223372036854775808≤(1:Int)∧(1:Int) < 9223372036854775808:=by decide
theorem ud {n:Int} (h:-9223372036854775808≤n∧n < 9223372036854775808):aT n.natAbs≤8:=gE (Nat.lt_of_le_of_lt (show n.natAbs≤9223372036854775808 by omega) (by decide))
theorem KF (n e:Nat):n / C ^ e=n / C ^ (e+1)*256+n / C ^ e % 256:=by
 have:=Er n e;omega
abbrev I4:=(Int × Nat) × (Int × Nat)
def I4.args (i:I4):List Value:=[.int .i64 i.1.1,.int .i64 i.1.2,.int .i64 i.2.1,.int .i64 i.2.2]
def jI (i:Int × Nat):Prop:=(-16777216 < i.1∧i.1 < 16777216)∧0 < i.2∧i.2 < 16777216
def I4.ok (i:I4):Prop:=jI i.1∧jI i.2
def CO:bF:={ ι:=I4,args:=I4.args,pre:=I4.ok,val:=fun i=>bK (mkRat (i.1.1*i.2.2+i.2.1*i.1.2) (i.1.2*i.2.2)) }
def CP:bF:={ ι:=I4,args:=I4.args,pre:=I4.ok,val:=fun i=>bK (mkRat (i.1.1*i.2.1) (i.1.2*i.2.2)) }
def zh:bF:={ ι:=I4,args:=I4.args,pre:=I4.ok,val:=fun i=>.int .i64 (dO (i.1.1*i.2.2) (i.2.1*i.1.2)) }
abbrev FV:=(IV × IV) × (IV × IV)
def FV.args (i:FV):List Value:=[xm i.1.1 i.1.2,xm i.2.1 i.2.2]
def lZ (i:IV × IV):Prop:=(i.1.2.size≤17179869184∧i.2.2.size≤17179869184)∧0 < i.2.z
def FV.ok (i:FV):Prop:=lZ i.1∧lZ i.2
def xn:bF:={ ι:=FV,args:=FV.args,pre:=FV.ok,val:=fun i=>bK (mkRat (i.1.1.z*i.2.2.z+i.2.1.z*i.1.2.z) (i.1.2.z*i.2.2.z).natAbs) }
def xo:bF:={ ι:=FV,args:=FV.args,pre:=FV.ok,val:=fun i=>bK (mkRat (i.1.1.z*i.2.1.z) (i.1.2.z*i.2.2.z).natAbs) }
def xp:bF:={ ι:=FV,args:=FV.args,pre:=FV.ok,val:=fun i=>.int .i64 (dO (i.1.1.z*i.2.2.z) (i.2.1.z*i.1.2.z)) }
theorem I4.bounds {i:I4} (h:i.ok):(-281474976710656 < i.1.1*i.2.2∧i.1.1*i.2.2 < 281474976710656)∧(-281474976710656 < i.2.1*i.1.2∧i.2.1*i.1.2 < 281474976710656)∧(-281474976710656 < i.1.1*i.2.1∧i.1.1*i.2.1 < 281474976710656)∧0 < i.1.2*i.2.2∧i.1.2*i.2.2 < 281474976710656:=by
 obtain ⟨⟨h1,J⟩,h3,h4⟩:=h;refine ⟨KE h1 ⟨by omega,by omega⟩,KE h3 ⟨by omega,by omega⟩,?_,Nat.mul_pos J.1 h4.1,?_⟩
 ·have:(i.1.1*i.2.1).natAbs≤16777215*16777215:=by
   rw [Int.natAbs_mul];exact Nat.mul_le_mul (by omega) (by omega)
  omega
 ·have:i.1.2*i.2.2≤16777215*16777215:=Nat.mul_le_mul (by omega) (by omega)
  omega
theorem EI.gx {x y:Int} {B:Bool} {m:ByteArray} {k l:Nat} (h:EI (x*y) B m) (hx:aT x.natAbs≤k) (hy:aT y.natAbs≤l):m.size≤k+l:=by
 rw [h.size,Int.natAbs_mul];exact Nat.le_trans (wP _ _) (Nat.add_le_add hx hy)
theorem EI.FU {x y:Int} {B:Bool} {m:ByteArray} {k:Nat} (h:EI (x+y) B m) (hx:aT x.natAbs≤k) (hy:aT y.natAbs≤k):m.size≤k+1:=by
 rw [h.size];exact Nat.le_trans (iK (Int.natAbs_add_le _ _)) (NA hx hy)
theorem dE {b:Bool} {s:ByteArray} {k:Nat} (h:s.size≤k):aT (IV.z (b,s)).natAbs≤k:=by
 unfold IV.z;rw [tV];exact Nat.le_trans (iZ s) h
theorem RV.jI {i:RV} (h:i.fK):Go.Ae.jI (i.n,i.d):=⟨i.GZ h,i.G0 h⟩
theorem RV.lZ {i:RV} (h:i.ok):Go.Ae.lZ ((i.1,i.2.1),(false,i.den)):=⟨⟨by have:=h.1; show i.2.1.size≤_; omega,by have:=i.rK; have:=h.2; show i.den.size≤_; omega⟩,by
 show 0 < IV.z (false,i.den)
 rw [RV.jH];have:=i.jF;omega⟩
theorem ZK (a b:RV):CO.val ((a.n,a.d),(b.n,b.d))=bK (a.q+b.q):=by rw [Hv]; rfl
theorem ZL (a b:RV):CP.val ((a.n,a.d),(b.n,b.d))=bK (a.q*b.q):=by rw [Hw]; rfl
theorem ZM (a b:RV):zh.val ((a.n,a.d),(b.n,b.d))=.int .i64 (a8 a.q b.q):=by rw [CN]; rfl
theorem KG (a b:RV):(IV.z (false,a.den)*IV.z (false,b.den)).natAbs=a.d*b.d:=by
 rw [RV.jH,RV.jH,← Int.natCast_mul,Int.natAbs_natCast]
theorem ZN (a b:RV):xn.val (((a.1,a.2.1),(false,a.den)),((b.1,b.2.1),(false,b.den)))=bK (a.q+b.q):=by
 show bK (mkRat (IV.z (a.1,a.2.1)*IV.z (false,b.den)+IV.z (b.1,b.2.1)*IV.z (false,a.den)) (IV.z (false,a.den)*IV.z (false,b.den)).natAbs)=_
 rw [KG,RV.jH,RV.jH,Hv]
 rfl
theorem ZO (a b:RV):xo.val (((a.1,a.2.1),(false,a.den)),((b.1,b.2.1),(false,b.den)))=bK (a.q*b.q):=by
 show bK (mkRat (IV.z (a.1,a.2.1)*IV.z (b.1,b.2.1)) (IV.z (false,a.den)*IV.z (false,b.den)).natAbs)=_
 rw [KG,Hw]
 rfl
theorem ZP (a b:RV):xp.val (((a.1,a.2.1),(false,a.den)),((b.1,b.2.1),(false,b.den)))=.int .i64 (a8 a.q b.q):=by
 show Value.int .i64 (dO (IV.z (a.1,a.2.1)*IV.z (false,b.den)) (IV.z (b.1,b.2.1)*IV.z (false,a.den)))=_
 rw [RV.jH,RV.jH,CN]
 rfl
open Go
def iC:bF:={ ι:=RV,args:=fun i=>[i.v],pre:=RV.ok,val:=fun i=>.int .i64 (a8 i.q 0) }
def mO:bF:={ ι:=RV,args:=fun i=>[i.v],pre:=RV.ok,val:=fun i=>.int .i64 (if i=RV.of i.q then 0 else 1) }
def lC (n d:Int):Value:=.tuple ⟨[bK (Rat.divInt n d),.int .i64 (if d=0 then 10 else 0)]⟩
def uL:bF:={ ι:=kl,args:=fun i=>[i.1.v,i.2.v],pre:=kl.ok,val:=fun i=>lC i.1.z i.2.z }
def Gv:bF:={ ι:=Int × Int,args:=fun i=>[.int .i64 i.1,.int .i64 i.2],pre:=fun i=>(-9223372036854775808≤i.1∧i.1 < 9223372036854775808)∧-9223372036854775808≤i.2∧i.2 < 9223372036854775808,val:=fun i=>lC i.1 i.2 }
theorem ZQ (i:RV):a8 i.q 0=dO i.n 0:=by
 have h:=CN i (RV.of 0);rw [RV.ic,RV.PF,RV.PG] at h;rw [h];show dO (i.n*1) (0*_)=_
 rw [Int.mul_one,Int.zero_mul]
theorem Ez (i j:RV):eT [.bool i.1,.string i.2.1,.string i.2.2] [.bool j.1,.string j.2.1,.string j.2.2]=decide (i=j):=by
 obtain ⟨a,b,c⟩:=i;obtain ⟨a',b',c'⟩:=j;simp only [eT,Bool.and_true,pZ];by_cases h1:a=a' <;> by_cases J:b=b' <;> by_cases h3:c=c' <;> simp [h1,J,h3]
theorem Lf {n d:Int} (h:0 < d):Rat.divInt n d=mkRat n d.natAbs:=by
 obtain ⟨k,rfl⟩:∃ k:Nat,d=k:=⟨d.natAbs,by omega⟩
 rw [Rat.divInt_ofNat,Int.natAbs_natCast]
theorem Sn {n d:Int} (h:d < 0):Rat.divInt n d=mkRat (-n) (-d).natAbs:=by
 rw [← Rat.neg_divInt_neg,Lf (by omega)]
theorem Oj (b:Bool) (s t:ByteArray):RV.q (!b,s,t)=-RV.q (b,s,t):=(acb (b,s,t)).symm
theorem ace:bK 0=.agg ⟨[.bool false,.string ⟨#[]⟩,.string ⟨#[]⟩]⟩:=by
 have:=yk 1
 rwa [Rat.zero_mkRat] at this
def PI (q:Rat):Rat:=if q < 0 then -q else q
def RV.zi (i:RV):Prop:=60 < i.2.1.size∨60 < i.2.2.size
instance (i:RV):Decidable i.zi:=inferInstanceAs (Decidable (_∨_))
theorem tW {p q:Rat}:a8 p q > 0↔q < p:=by
 unfold a8
 split
 ·rename_i h;constructor
  ·intro J; exact absurd J (by decide)
  ·intro J; grind
 ·split
  ·exact ⟨fun _=>by assumption,fun _=>by decide⟩
  ·exact ⟨fun h=>absurd h (by decide),fun h=>by contradiction⟩
theorem FW {p q:Rat}:a8 p q < 0↔p < q:=by
 unfold a8
 split
 ·exact ⟨fun _=>by assumption,fun _=>by decide⟩
 ·split
  ·exact ⟨fun h=>absurd h (by decide),fun h=>by contradiction⟩
  ·exact ⟨fun h=>absurd h (by decide),fun h=>by contradiction⟩
theorem adR:nb 1=⟨#[1]⟩:=by
 rw [xl (n:=1) (by decide) (.inr (by decide))]
 rfl
open Go
abbrev PV:=RV × RV
def PV.cells (p:PV):List Value:=[.bool p.1.1,.string p.1.2.1,.string p.1.2.2,.bool p.2.1,.string p.2.2.1,.string p.2.2.2]
def PV.v (p:PV):Value:=.agg ⟨[.bool p.1.1,.string p.1.2.1,.string p.1.2.2,.bool p.2.1,.string p.2.2.1,.string p.2.2.2]⟩
def mq (x y:Rat):Value:=PV.v (RV.of x,RV.of y)
def RV.sz (k:Nat) (i:RV):Prop:=i.2.1.size≤k∧i.2.2.size≤k
def PV.sz (k:Nat) (p:PV):Prop:=p.1.sz k∧p.2.sz k
theorem RV.bV {k:Nat} {i:RV} (h:i.sz k) (hk:k≤8589934592):i.ok:=⟨Nat.le_trans h.1 hk,Nat.le_trans h.2 hk⟩
theorem RV.aQ {k l:Nat} {i:RV} (h:i.sz k) (hk:k≤l):i.sz l:=⟨Nat.le_trans h.1 hk,Nat.le_trans h.2 hk⟩
theorem PV.aQ {k l:Nat} {i:PV} (h:i.sz k) (hk:k≤l):i.sz l:=⟨RV.aQ h.1 hk,RV.aQ h.2 hk⟩
theorem RV.mY {q:Rat} {k:Nat} (h:QB q k):(RV.of q).sz k:=⟨by show (nb _).size≤_; rw [gy]; exact h.1,L8 h.2⟩
theorem RV.jQ {i:RV} {k:Nat} (h:i.sz k) (hk:1≤k):QB i.q k:=RV.qb h.1 h.2 hk
def lE (a b:Rat):Rat:=if a < b then b else a
def lF (a b:Rat):Rat:=if b < a then b else a
def adS (a b:PV):Int:=if a8 a.1.q b.1.q≠0 then a8 a.1.q b.1.q else a8 a.2.q b.2.q
abbrev q9:=PV × PV
def vx:Int→Prop:=fun n=>-9223372036854775808≤n∧n < 9223372036854775808
def qF:bF:={ ι:=Int × Int,args:=fun i=>[.int .i64 i.1,.int .i64 i.2],pre:=fun i=>vx i.1∧vx i.2,val:=fun i=>mq (i.1:Rat) (i.2:Rat) }
def Jm (i:q9):Prop:=i.1.sz 8589934592∧i.2.sz 8589934592
def Hx:bF:={ ι:=q9,args:=fun i=>[i.1.v,i.2.v],pre:=Jm,val:=fun i=>mq (i.1.1.q+i.2.1.q) (i.1.2.q+i.2.2.q) }
def kC:bF:={ ι:=q9,args:=fun i=>[i.1.v,i.2.v],pre:=Jm,val:=fun i=>mq (i.1.1.q - i.2.1.q) (i.1.2.q - i.2.2.q) }
def Gw:bF:={ ι:=PV × RV,args:=fun i=>[i.1.v,i.2.v],pre:=fun i=>i.1.sz 8589934592∧i.2.sz 8589934592,val:=fun i=>mq (i.1.1.q*i.2.q) (i.1.2.q*i.2.q) }
def adT (i:q9):Prop:=i.1.sz 1073741824∧i.2.sz 1073741824
def ZR (p q:PV):Rat:=p.1.q*q.2.q - p.2.q*q.1.q
def pT:bF:={ ι:=q9,args:=fun i=>[i.1.v,i.2.v],pre:=adT,val:=fun i=>bK (ZR i.1 i.2) }
def PV.canon (p:PV):Prop:=p.1=RV.of p.1.q∧p.2=RV.of p.2.q
instance (p:PV):Decidable p.canon:=inferInstanceAs (Decidable (_∧_))
def jW:bF:={ ι:=PV,args:=fun i=>[i.v],pre:=fun i=>i.sz 8589934592,val:=fun i=>.int .i64 (if i.canon then 0 else 1) }
def oW:bF:={ ι:=q9,args:=fun i=>[i.1.v,i.2.v],pre:=Jm,val:=fun i=>.int .i64 (adS i.1 i.2) }
def adU (i:q9):Prop:=i.1.sz 268435456∧i.2.sz 268435456
def xC:bF:={ ι:=q9 × RV,args:=fun i=>[i.1.1.v,i.1.2.v,i.2.v],pre:=fun i=>adU i.1∧i.2.sz 268435456,val:=fun i=>mq (i.1.1.1.q+(i.1.2.1.q - i.1.1.1.q)*i.2.q) (i.1.1.2.q+(i.1.2.2.q - i.1.1.2.q)*i.2.q) }
def PV.zi (p:PV):Prop:=p.1.zi∨p.2.zi
instance (p:PV):Decidable p.zi:=inferInstanceAs (Decidable (_∨_))
theorem Td (p q:PV):eT p.cells q.cells=decide (p=q):=by
 obtain ⟨⟨a,b,c⟩,⟨d,e,f⟩⟩:=p;obtain ⟨⟨a',b',c'⟩,⟨d',e',f'⟩⟩:=q;simp only [PV.cells,eT,Bool.and_true,pZ];by_cases h1:a=a' <;> by_cases J:b=b' <;> by_cases h3:c=c' <;> by_cases h4:d=d' <;> by_cases h5:e=e' <;> by_cases h6:f=f' <;> simp [h1,J,h3,h4,h5,h6]
def RV.cells (i:RV):List Value:=[.bool i.1,.string i.2.1,.string i.2.2]
def di (l:List PV):Nat→List Value:=fun r=>(l.getD r ((false,⟨#[]⟩,⟨#[]⟩),(false,⟨#[]⟩,⟨#[]⟩))).cells
theorem FX {o:Bool} {n k:Nat} {g:Nat→List Value} {rows:List (List Value)} (h1:rows.length=n) (J:∀ r,r < n→rows.getD r []=g r) (h3:∀ r,r < n→mh (g r)=true):ar (.flat false n k g) (.aS o k rows) :=
 ⟨(fun h=>by cases h),rfl,by show n≤rows.length; omega,fun r hr=>by
  show g r=rows.getD r []
  exact (J r hr).symm,fun r hr v hv=>dC (h3 r hr) v hv⟩
theorem Lg (l:List PV) (r:Nat):mh (di l r)=true:=rfl
open Go
theorem rG {l:List PV} {i:Nat} (h:i < l.length):∃ p,l[i]?=some p∧p∈l∧di l i=p.cells:=by
 refine ⟨l[i],List.getElem?_eq_getElem h,List.getElem_mem h,?_⟩;unfold di;rw [List.getD_eq_getElem?_getD,List.getElem?_eq_getElem h]
 rfl
theorem VD {p q:Rat}:a8 p q=1↔q < p:=by
 unfold a8
 split
 ·rename_i h;exact ⟨fun J=>absurd J (by decide),fun J=>by grind⟩
 ·split
  ·exact ⟨fun _=>by assumption,fun _=>rfl⟩
  ·exact ⟨fun h=>absurd h (by decide),fun h=>by contradiction⟩
theorem Uu {p q:Rat}:a8 p q=-1↔p < q:=by
 unfold a8
 split
 ·exact ⟨fun _=>by assumption,fun _=>rfl⟩
 ·split
  ·exact ⟨fun h=>absurd h (by decide),fun h=>by contradiction⟩
  ·exact ⟨fun h=>absurd h (by decide),fun h=>by contradiction⟩
theorem QB.max {p q:Rat} {k:Nat} (hp:QB p k) (hq:QB q k):QB (lE p q) k:=by
 unfold lE; split <;> assumption
theorem QB.min {p q:Rat} {k:Nat} (hp:QB p k) (hq:QB q k):QB (lF p q) k:=by
 unfold lF; split <;> assumption
theorem QB.abs {p:Rat} {k:Nat} (hp:QB p k):QB (PI p) k:=by
 unfold PI; split
 ·exact hp.neg
 ·exact hp
abbrev XV:=PV × PV
def XV.v (b:XV):Value:=.agg ⟨[.bool b.1.1.1,.string b.1.1.2.1,.string b.1.1.2.2,.bool b.1.2.1,.string b.1.2.2.1,.string b.1.2.2.2,.bool b.2.1.1,.string b.2.1.2.1,.string b.2.1.2.2,.bool b.2.2.1,.string b.2.2.2.1,.string b.2.2.2.2]⟩
def XV.cells (b:XV):List Value:=[.bool b.1.1.1,.string b.1.1.2.1,.string b.1.1.2.2,.bool b.1.2.1,.string b.1.2.2.1,.string b.1.2.2.2,.bool b.2.1.1,.string b.2.1.2.1,.string b.2.1.2.2,.bool b.2.2.1,.string b.2.2.2.1,.string b.2.2.2.2]
def OX (b:XV) (p:PV):Prop:=b.1.1.q≤p.1.q∧p.1.q≤b.2.1.q∧b.1.2.q≤p.2.q∧p.2.q≤b.2.2.q
instance (b:XV) (p:PV):Decidable (OX b p):=inferInstanceAs (Decidable (_∧_∧_∧_))
def VE:bF:={ ι:=XV × PV,args:=fun i=>[i.1.v,i.2.v],pre:=fun i=>(i.1.1.sz 268435456∧i.1.2.sz 268435456)∧i.2.sz 268435456,val:=fun i=>.bool (decide (OX i.1 i.2)) }
theorem Gx {p q:Rat}:a8 p q≤0↔p≤q:=by
 have:=tW (p:=p) (q:=q);constructor
 ·intro h; have:¬ q < p:=fun e=>by have:=this.2 e; omega
  grind
 ·intro h; have:¬ a8 p q > 0:=fun e=>by have:=this.1 e; grind
  omega
theorem nD {p q:Rat}:a8 p q ≥ 0↔q≤p:=by
 have:=FW (p:=p) (q:=q);constructor
 ·intro h; have:¬ p < q:=fun e=>by have:=this.2 e; omega
  grind
 ·intro h; have:¬ a8 p q < 0:=fun e=>by have:=this.1 e; grind
  omega
open Go
def qj:bF:={ ι:=nv,args:=fun i=>[i.1.v,i.2.v],pre:=nv.ok,val:=fun i=>.tuple ⟨[bK (i.1.q / i.2.q),.int .i64 (if i.2.q=0 then 10 else 0)]⟩ }
theorem Te (b:RV):b.q=0↔b.n=0:=by
 have hb:=natCast_pos b.jF;rw [yt,Rat.div_def];constructor
 ·intro h;rcases Rat.mul_eq_zero.1 h with h | h
  ·exact_mod_cast h
  ·exfalso;have J:((b.d:Nat):Rat)*((b.d:Nat):Rat)⁻¹=1:=Rat.mul_inv_cancel _ (by grind)
   rw [h] at J;grind
 ·intro h;rw [h];simp
theorem acf (a b:RV):lC (a.n*b.d) (a.d*b.n)=.tuple ⟨[bK (a.q / b.q),.int .i64 (if b.q=0 then 10 else 0)]⟩:=by
 have ha:=natCast_pos a.jF;have hb:=natCast_pos b.jF;have e1:Rat.divInt (a.n*b.d) (a.d*b.n)=a.q / b.q:=by
  rw [Rat.divInt_eq_div,yt a,yt b,Rat.intCast_mul,Rat.intCast_mul,Rat.intCast_natCast,Rat.intCast_natCast];by_cases h:(b.n:Rat)=0
  ·rw [h]; simp [Rat.div_def]
  ·grind
 have e2:((a.d:Int)*b.n=0)↔b.q=0:=by
  rw [Te];constructor
  ·intro h;rcases Int.mul_eq_zero.1 h with h | h
   ·have:=a.jF; omega
   ·exact h
  ·intro h; rw [h]; simp
 unfold lC;rw [e1];simp only [e2]
open Go
theorem QI (i:RV):eT [.bool i.1,.string i.2.1,.string i.2.2] [.bool i.1,.string i.2.1,.string i.2.2]=true:=by
 rw [Ez i i]; exact decide_eq_true rfl
instance (n:Int):Decidable (vx n):=inferInstanceAs (Decidable (_∧_))
def Ok:bF:={ ι:=Unit,args:=fun _=>[],pre:=fun _=>True,val:=fun _=>.bool true }
def dj:RV:=(false,⟨#[]⟩,⟨#[]⟩)
theorem tX (k:Nat):dj.sz k:=⟨Nat.zero_le _,Nat.zero_le _⟩
theorem yU {n:Int} (h:n.natAbs < 256):QB (n:Rat) 1:=by
 have e1:(n:Rat).num=n:=Rat.num_intCast n;have e2:(n:Rat).den=1:=Rat.den_intCast n;refine ⟨?_,?_⟩
 ·rw [e1]; exact gE (show n.natAbs < C ^ 1 from h)
 ·rw [e2]; exact gE (show 1 < C ^ 1 by decide)
open Go
abbrev PL:=Option (List PV × Nat)
def PL.val:PL→Value
 | none=>.slice none 0 0
 | some i=>.slice (some ⟨0,0,none⟩) i.1.length i.2
def PL.ae:PL→List aj
 | none=>[]
 | some i=>[.flat false i.1.length 6 (di i.1)]
def PL.list:PL→List PV
 | none=>[]
 | some i=>i.1
def PL.ok (i:PL):Prop:=i.list.length≤9223372036854775807
def mZ:XV:=((dj,dj),(dj,dj))
theorem WX:dj.q=0:=by
 show mkRat (a9 false (ab ⟨#[]⟩)) _=0
 exact Rat.zero_mkRat _
open Go
theorem eqX (b:XV):eT [.bool b.1.1.1,.string b.1.1.2.1,.string b.1.1.2.2,.bool b.1.2.1,.string b.1.2.2.1,.string b.1.2.2.2,.bool b.2.1.1,.string b.2.1.2.1,.string b.2.1.2.2,.bool b.2.2.1,.string b.2.2.2.1,.string b.2.2.2.2] [.bool b.1.1.1,.string b.1.1.2.1,.string b.1.1.2.2,.bool b.1.2.1,.string b.1.2.2.1,.string b.1.2.2.2,.bool b.2.1.1,.string b.2.1.2.1,.string b.2.1.2.2,.bool b.2.2.1,.string b.2.2.2.1,.string b.2.2.2.2]=true:=by
 simp [eT]
open Go
structure Bounds (l:List PV) (X:XV):Prop where
 inb:∀ p∈l,VE.val (X,p)=.bool true
 sz:X.1.sz 268435456∧X.2.sz 268435456
 c1:jW.val X.1=.int .i64 0
 c2:jW.val X.2=.int .i64 0
 l1:∃ p∈l,p.1.q=X.1.1.q
 l2:∃ p∈l,p.1.q=X.2.1.q
 l3:∃ p∈l,p.2.q=X.1.2.q
 l4:∃ p∈l,p.2.q=X.2.2.q
theorem ym {p q:Rat}:a8 p q=0↔p=q:=by
 have h1:=Gx (p:=p) (q:=q);have J:=nD (p:=p) (q:=q);constructor
 ·intro h; have:=h1.1 (by omega); have:=J.1 (by omega); grind
 ·intro h; have:=h1.2 (by grind); have:=J.2 (by grind); omega
theorem ar.rH {o o':Bool} {n e:Nat} {g f:Nat→List Value} (h:o=true→o'=true) (hf:∀ r,r < n→f r=g r) (hs:∀ r,r < n→mh (g r)=true):ar (.flat o n e g) (.flat o' n e f) :=
 ⟨fun ho=>⟨h ho,rfl⟩,rfl,Nat.le_refl _,fun r hr=>(hf r hr).symm,fun r hr v hv=>dC (hs r hr) v hv⟩
open Go
abbrev Q2:=Rat × Rat
def PV.p (a:PV):Q2:=(a.1.q,a.2.q)
def cB (p:Q2):PV:=(RV.of p.1,RV.of p.2)
theorem ia (p:Q2):(cB p).p=p:=by
 show ((RV.of p.1).q,(RV.of p.2).q)=p
 rw [RV.ic,RV.ic]
def sI (b a:Q2):Q2:=(b.1 - a.1,b.2 - a.2)
def Dc (u v:Q2):Rat:=u.1*v.1+u.2*v.2
def nI (u v:Q2):Rat:=u.1*v.2 - u.2*v.1
theorem NC (b a:PV):kC.val (b,a)=(cB (sI b.p a.p)).v:=rfl
theorem Uv (u v:PV):pT.val (u,v)=(RV.of (nI u.p v.p)).v:=rfl
theorem VF (r:RV):iC.val r=.int .i64 (a8 r.q 0):=rfl
def Q2.sz (k:Nat) (p:Q2):Prop:=QB p.1 k∧QB p.2 k
theorem PV.dy {a:PV} {k:Nat} (h:a.sz k) (hk:1≤k):Q2.sz k a.p:=⟨RV.jQ h.1 hk,RV.jQ h.2 hk⟩
theorem ur {p:Q2} {k l:Nat} (h:Q2.sz k p) (hl:k≤l):(cB p).sz l:=⟨RV.aQ (RV.mY h.1) hl,RV.aQ (RV.mY h.2) hl⟩
theorem oN {a b:Q2} {k l:Nat} (ha:Q2.sz k a) (hb:Q2.sz l b):Q2.sz (k+l+1) (sI a b):=⟨ha.1.sub hb.1,ha.2.sub hb.2⟩
theorem ZS {a b:Q2} {k l:Nat} (ha:Q2.sz k a) (hb:Q2.sz l b):QB (Dc a b) (k+l+(k+l)+1):=(ha.1.mul hb.1).add (ha.2.mul hb.2)
theorem yu {a b:Q2} {k l:Nat} (ha:Q2.sz k a) (hb:Q2.sz l b):QB (nI a b) (k+l+(k+l)+1):=(ha.1.mul hb.2).sub (ha.2.mul hb.1)
theorem ZT {q:Rat} {k:Nat} (h:QB q k) (hk:k≤8589934592):(RV.of q).ok:=RV.r9 (h.mono hk)
def ao (a b c:Q2):Rat:=nI (sI b a) (sI c a)
abbrev xS:=PV × PV × PV
def Dd (i:xS):Prop:=i.1.sz 1048576∧i.2.1.sz 1048576∧i.2.2.sz 1048576
def lW:bF:={ ι:=xS,args:=fun i=>[i.1.v,i.2.1.v,i.2.2.v],pre:=Dd,val:=fun i=>.int .i64 (a8 (ao i.1.p i.2.1.p i.2.2.p) 0) }
def De (a b p:Q2):Prop:=ao a b p=0∧Dc (sI a p) (sI b p)≤0
instance (a b p:Q2):Decidable (De a b p):=inferInstanceAs (Decidable (_∧_))
def k9 (v:Q2):Int:=if v.1=0∧v.2=0 then 0 else if 0 < v.2∨v.2=0∧0 < v.1 then 1 else 2
def sJ (u v:Q2):Int:=if k9 u < k9 v then -1 else if k9 v < k9 u then 1 else -a8 (nI u v) 0
abbrev TV:=PV × PV × PV
def TV.v (t:TV):Value:=.agg ⟨t.1.cells++(t.2.1.cells++t.2.2.cells)⟩
def xq (u p:Q2):Q2:=(Dc u p,nI u p)
def adV (u v w:Q2):Prop:=k9 u≠0∧k9 v≠0∧k9 w≠0∧sJ (xq u w) (xq u u)≠0∧(sJ (xq u v) (xq u u)=0∨sJ (xq u w) (xq u v) < 0)
instance (u v w:Q2):Decidable (adV u v w):=inferInstanceAs (Decidable (_∧_))
open Go
def fC (a b:Q2):Int:=if a8 a.1 b.1≠0 then a8 a.1 b.1 else a8 a.2 b.2
theorem ND {p q:Rat} (h:p < q):a8 p q=-1:=Uu.2 h
theorem NF {p q:Rat} (h:q < p):a8 p q=1:=VD.2 h
theorem Gy {p q:Rat} (h:p=q):a8 p q=0:=ym.2 h
theorem QJ (q:Rat):q < 0∨q=0∨0 < q:=by
 by_cases h:q < 0
 ·exact .inl h
 ·by_cases J:0 < q
  ·exact .inr (.inr J)
  ·exact .inr (.inl (by grind))
theorem Bc (q:Rat):(q < 0∧a8 q 0=-1)∨(q=0∧a8 q 0=0)∨(0 < q∧a8 q 0=1):=by
 rcases QJ q with h | h | h
 ·exact .inl ⟨h,ND h⟩
 ·exact .inr (.inl ⟨h,Gy h⟩)
 ·exact .inr (.inr ⟨h,NF h⟩)
theorem FY (p q:Rat):a8 p q=a8 (p - q) 0:=by
 rcases Bc (p - q) with ⟨h1,J⟩ | ⟨h1,J⟩ | ⟨h1,J⟩ <;> rw [J]
 ·exact ND (by grind)
 ·exact Gy (by grind)
 ·exact NF (by grind)
theorem Uw {a b:Q2}:fC a b=0↔a.1=b.1∧a.2=b.2:=by
 unfold fC;by_cases h:a8 a.1 b.1=0
 ·rw [if_neg (by simp [h]),ym]
  exact ⟨fun J=>⟨ym.1 h,J⟩,fun J=>J.2⟩
 ·rw [if_pos h];exact ⟨fun J=>absurd J h,fun J=>ym.2 J.1⟩
theorem pJ (p q:Rat):a8 p q=-1∨a8 p q=0∨a8 p q=1:=by
 unfold a8; split
 ·exact .inl rfl
 ·split
  ·exact .inr (.inr rfl)
  ·exact .inr (.inl rfl)
theorem Lh (a b:Q2):fC a b=-1∨fC a b=0∨fC a b=1:=by
 unfold fC; split <;> exact pJ _ _
open Go
def xD (a b:Q2):Q2:=(a.1+b.1,a.2+b.2)
open Go
def H1 (u:Q2):Prop:=0 < u.2∨u.2=0∧0 < u.1
def H2 (u:Q2):Prop:=u.2 < 0∨u.2=0∧u.1 < 0
def Jn (k:Rat) (u:Q2):Q2:=(u.1*k,u.2*k)
open Go
theorem sh {x:Q2} {k:Nat} (h:Q2.sz k x):∃ u:PV,(cB x).v=u.v∧u.p=x∧u.sz k∧Q2.sz k u.p :=
 ⟨cB x,rfl,ia x,ur h (Nat.le_refl _),by rw [ia]; exact h⟩
theorem gI {q:Rat} {k:Nat} (h:QB q k):∃ r:RV,(RV.of q).v=r.v∧r.q=q∧r.sz k∧QB r.q k :=
 ⟨RV.of q,rfl,RV.ic q,RV.mY h,by rw [RV.ic]; exact h⟩
theorem RV.acg {a b:RV} (h:a.v=b.v):a.1=b.1∧a.2.1=b.2.1∧a.2.2=b.2.2:=by
 have h:Value.agg ⟨[.bool a.1,.string a.2.1,.string a.2.2]⟩=Value.agg ⟨[.bool b.1,.string b.2.1,.string b.2.2]⟩:=h;simp only [Value.agg.injEq,Array.mk.injEq,List.cons.injEq,Value.bool.injEq,Value.string.injEq] at h;exact ⟨h.1,h.2.1,h.2.2.1⟩
theorem RV.nU {a b:RV} (h:a.v=b.v):a=b:=by
 obtain ⟨h1,J,h3⟩:=RV.acg h;exact Prod.ext h1 (Prod.ext J h3)
theorem PV.nU {a b:PV} (h:a.v=b.v):a=b:=by
 have h:Value.agg ⟨[.bool a.1.1,.string a.1.2.1,.string a.1.2.2,.bool a.2.1,.string a.2.2.1,.string a.2.2.2]⟩=Value.agg ⟨[.bool b.1.1,.string b.1.2.1,.string b.1.2.2,.bool b.2.1,.string b.2.2.1,.string b.2.2.2]⟩:=h;simp only [Value.agg.injEq,Array.mk.injEq,List.cons.injEq,Value.bool.injEq,Value.string.injEq] at h;obtain ⟨h1,J,h3,h4,h5,h6,_⟩:=h;exact Prod.ext (Prod.ext h1 (Prod.ext J h3)) (Prod.ext h4 (Prod.ext h5 h6))
theorem eU (n:Int):∃ m:Int,Value.int .i64 n=Value.int .i64 m∧m=n:=⟨n,rfl,rfl⟩
theorem w8 {x:Q2} {k:Nat} (h:Q2.sz k x):∃ u:PV,u=cB x∧(cB x).v=u.v∧u.p=x∧u.sz k∧Q2.sz k u.p :=
 ⟨cB x,rfl,rfl,ia x,ur h (Nat.le_refl _),by rw [ia]; exact h⟩
theorem G1 {q:Rat} {k:Nat} (h:QB q k):∃ r:RV,r=RV.of q∧(RV.of q).v=r.v∧r.q=q∧r.sz k∧QB r.q k :=
 ⟨RV.of q,rfl,rfl,RV.ic q,RV.mY h,by rw [RV.ic]; exact h⟩
theorem u0 (a b:Int) (ha:a.natAbs < 256) (hb:b.natAbs < 256):Q2.sz 1 ((a:Rat),(b:Rat)) :=
 ⟨yU ha,yU hb⟩
theorem Df (p q:PV):eT [.bool p.1.1,.string p.1.2.1,.string p.1.2.2,.bool p.2.1,.string p.2.2.1,.string p.2.2.2] [.bool q.1.1,.string q.1.2.1,.string q.1.2.2,.bool q.2.1,.string q.2.2.1,.string q.2.2.2]=decide (p=q):=Td p q
theorem QB.of_int {n:Int} {k:Nat} (h:aT n.natAbs≤k) (hk:1≤k):QB (n:Rat) k:=⟨by rw [Rat.num_intCast]; exact h,by rw [Rat.den_intCast]; exact Nat.le_trans (gE (show 1 < C ^ 1 by decide)) hk⟩
theorem QB.inv {q:Rat} {k:Nat} (h:QB q k) (hk:1≤k):QB q⁻¹ k:=by
 by_cases hq:q=0
 ·subst hq;have:(0:Rat)⁻¹=0:=by simp
  rw [this]; exact h
 ·have e:q⁻¹=Rat.divInt q.den q.num:=Rat.inv_def q;rw [e];have hn:q.num≠0:=fun e=>hq (Rat.num_eq_zero.1 e)
  rcases Int.lt_or_gt_of_ne hn with h1 | h1
  ·have e2:Rat.divInt q.den q.num=mkRat (-(q.den:Int)) q.num.natAbs:=by
    obtain ⟨m,hm⟩:∃ m:Nat,q.num=-(m:Int):=⟨q.num.natAbs,by omega⟩
    rw [hm];rw [Rat.divInt_neg'];simp
   rw [e2];exact QB.mk (by omega) (by rw [Int.natAbs_neg,Int.natAbs_natCast]; exact h.2) h.1
  ·have e2:Rat.divInt q.den q.num=mkRat (q.den:Int) q.num.natAbs:=by
    obtain ⟨m,hm⟩:∃ m:Nat,q.num=(m:Int):=⟨q.num.natAbs,by omega⟩
    rw [hm];simp
   rw [e2];exact QB.mk (by omega) (by rw [Int.natAbs_natCast]; exact h.2) h.1
theorem QB.div {p q:Rat} {k l:Nat} (hp:QB p k) (hq:QB q l) (hl:1≤l):QB (p / q) (k+l):=by
 rw [Rat.div_def]; exact hp.mul (hq.inv hl)
def atR (a b:Q2) (t:Rat):Q2:=(a.1+(b.1 - a.1)*t,a.2+(b.2 - a.2)*t)
theorem zj {a b:Q2} {t:Rat} {k l m:Nat} (ha:Q2.sz k a) (hb:Q2.sz l b) (ht:QB t m):Q2.sz (k+(l+k+1+m)+1) (atR a b t) :=
 ⟨ha.1.add ((hb.1.sub ha.1).mul ht),ha.2.add ((hb.2.sub ha.2).mul ht)⟩
open Go
abbrev R3:=RV × RV × RV
def R3.v (i:R3):Value:=.agg ⟨[.bool i.1.1,.string i.1.2.1,.string i.1.2.2,.bool i.2.1.1,.string i.2.1.2.1,.string i.2.1.2.2,.bool i.2.2.1,.string i.2.2.2.1,.string i.2.2.2.2]⟩
def R3.get (i:R3):Nat→RV | 0=>i.1 | 1=>i.2.1 | _=>i.2.2
def R3.sz (k:Nat) (i:R3):Prop:=i.1.sz k∧i.2.1.sz k∧i.2.2.sz k
def R3.rows (i:R3):Nat→List Value:=fun r=>(i.get r).cells
def R3.cells (i:R3):List Value:=[.bool i.1.1,.string i.1.2.1,.string i.1.2.2,.bool i.2.1.1,.string i.2.1.2.1,.string i.2.1.2.2,.bool i.2.2.1,.string i.2.2.2.1,.string i.2.2.2.2]
theorem R3.aJ (i:R3):ar (.flat false 1 9 (fun _=>i.cells)) (.aS true 9 [i.cells]) :=
 FX rfl (fun r hr=>by
  have:r=0:=by omega
  subst this; rfl) (fun r hr=>rfl)
def TV.w (t:TV):Value:=.agg ⟨[.bool t.1.1.1,.string t.1.1.2.1,.string t.1.1.2.2,.bool t.1.2.1,.string t.1.2.2.1,.string t.1.2.2.2,.bool t.2.1.1.1,.string t.2.1.1.2.1,.string t.2.1.1.2.2,.bool t.2.1.2.1,.string t.2.1.2.2.1,.string t.2.1.2.2.2,.bool t.2.2.1.1,.string t.2.2.1.2.1,.string t.2.2.1.2.2,.bool t.2.2.2.1,.string t.2.2.2.2.1,.string t.2.2.2.2.2]⟩
def sg (q:Rat):Int:=a8 q 0
def inR (a b c p:Q2):Prop:=sg (ao a b c)≠0∧sg (ao a b p)=sg (ao a b c)∧sg (ao b c p)=sg (ao a b c)∧sg (ao c a p)=sg (ao a b c)
instance (a b c p:Q2):Decidable (inR a b c p):=inferInstanceAs (Decidable (_∧_))
def onR (a b c p:Q2):Prop:=De a b p∨De b c p∨De c a p
instance (a b c p:Q2):Decidable (onR a b c p):=inferInstanceAs (Decidable (_∨_))
def ZU (u v w:Q2):Prop:=(k9 u≠0∧k9 v≠0∧k9 w≠0)∧if sJ u v < 0 then sJ u w < 0∧sJ w v < 0 else sJ u w < 0∨sJ w v < 0
instance (u v w:Q2):Decidable (ZU u v w):=inferInstanceAs (Decidable (_∧_))
def hs (u:Q2):Int:=if k9 u=2 then -1 else 1
structure Tri (u v w:Q2) (a b c x y z:Int):Prop where
 hu:k9 u=a
 hv:k9 v=b
 hw:k9 w=c
 ra:a=1∨a=2
 rb:b=1∨b=2
 rc:c=1∨c=2
 uv:sg (nI u v)=x
 uw:sg (nI u w)=y
 wv:sg (nI w v)=z
open Go
instance (k:Nat) (p:PV):Decidable (p.sz k):=inferInstanceAs (Decidable ((_∧_)∧(_∧_)))
def uu (k:Nat) (l:List PV):Bool:=l.any fun p=>decide (¬ p.sz k)
theorem EA {k:Nat} {l:List PV} {p:PV} (h:p∈l) (hg:¬ p.sz k):uu k l=true:=List.any_eq_true.2 ⟨p,h,decide_eq_true hg⟩
theorem RS {k:Nat} {l:List PV} (h:uu k l=false):∀ p∈l,p.sz k:=fun p hp=>by
 refine Classical.byContradiction fun hg=>?_
 rw [EA hp hg] at h; cases h
def ue (k:Nat) (l:List PV) (i:Nat):Prop:=∀ p∈l.take i,p.sz k
theorem J3 (k:Nat) (l:List PV):ue k l 0:=fun p hp=>by simp at hp
theorem Kj {k:Nat} {l:List PV} {i:Nat} {p:PV} (h:ue k l i) (hp:l[i]?=some p) (hg:p.sz k):ue k l (i+1):=fun q hq=>by
 rw [List.take_add_one,hp] at hq;simp only [Option.toList_some,List.mem_append,List.mem_singleton] at hq;rcases hq with hq | rfl
 ·exact h q hq
 ·exact hg
theorem KH {k:Nat} {l:List PV} (h:ue k l l.length):uu k l=false:=by
 cases e:uu k l
 ·rfl
 ·obtain ⟨p,hp,hg⟩:=List.any_eq_true.1 e;rw [ue,List.take_length] at h;exact absurd (h p hp) (of_decide_eq_true hg)
theorem NG (l:List PV):ar (.flat false l.length 6 (di l)) (.aS true 6 (l.map PV.cells)) :=
 FX (by simp) (fun r hr=>by
  unfold di;rw [List.getD_eq_getElem?_getD,List.getD_eq_getElem?_getD,List.getElem?_map,List.getElem?_eq_getElem hr]
  rfl) (fun r hr=>rfl)
def PL.uM (i:PL) (k:Nat):Value:=match i with | none=>.slice none 0 0 | some j=>.slice (some ⟨k,0,none⟩) j.1.length j.2
abbrev lN:=PL × PL
def cm:cG:={ ι:=lN,args:=fun i=>[i.1.val,i.2.uM i.1.ae.length],ae:=fun i=>i.1.ae++i.2.ae,pre:=fun i=>i.1.list.length≤1099511627776∧i.2.list.length≤1099511627776,val:=fun i=>.bool (decide (i.1.list=i.2.list)),new:=fun _=>none }
def u6 (l m:List PV) (i:Nat):Prop:=l.take i=m.take i
theorem Tf (l m:List PV):u6 l m 0:=rfl
theorem Ux {l m:List PV} {i:Nat} {p q:PV} (h:u6 l m i) (hp:l[i]?=some p) (hq:m[i]?=some q) (e:p=q):u6 l m (i+1):=by
 unfold u6 at *;rw [List.take_add_one,List.take_add_one,hp,hq,h,e]
theorem VG {l m:List PV} (h:u6 l m l.length) (hl:l.length=m.length):l=m:=by
 unfold u6 at h;rw [List.take_length] at h;rw [h,hl,List.take_length]
theorem ach {l m:List PV} {i:Nat} {p q:PV} (hp:l[i]?=some p) (hq:m[i]?=some q) (e:p≠q):l≠m:=fun h=>by
 subst h; rw [hp] at hq; exact e (Option.some.inj hq)
section
variable (f:PV→PV→Int)
def sK (x:PV):List PV→List PV
 | []=>[x]
 | y::r=>if f x y < 0 then y::sK x r else x::y::r
def xE (l:List PV):List PV:=l.foldl (fun a x=>sK f x a) []
theorem Uy {l:List PV} {x:PV}:xE f (l++[x])=sK f x (xE f l):=by unfold xE; rw [List.foldl_append]; rfl
end
structure aem (f:PV→PV→Int):Prop where
 aew:∀ x y,f y x=-f x y
 trans:∀ x y z,f x y≤0→f y z≤0→f x z≤0
def OY (f:PV→PV→Int) (l:List PV) (i:Nat):List PV:=(xE f (l.take i)).reverse++l.drop i
structure Ap (f:PV→PV→Int) (l:List PV) (i j:Nat) (x:PV) (r B L:List PV):Prop where
 at_:l[i]?=some x
 acc:xE f (l.take i)=B++r
 ins:sK f x (xE f (l.take i))=B++sK f x r
 len:r.length=j
 all:L=r.reverse++x::(B.reverse++l.drop (i+1))
theorem Ap.step {f:PV→PV→Int} {l:List PV} {i j:Nat} {x y:PV} {r B L:List PV} (h:Ap f l i j x (y::r) B L) (hf:f x y < 0) :
  Ap f l i (j - 1) x r (B++[y]) (r.reverse++x::y::(B.reverse++l.drop (i+1))):=by
 refine ⟨h.at_,by rw [h.acc]; simp,?_,?_,by simp⟩
 ·have e:sK f x (y::r)=y::sK f x r:=by
   show (if f x y < 0 then _ else _)=_
   rw [if_pos hf]
  rw [h.ins,e];simp
 ·have:=h.len; simp at this; omega
theorem Ap.done {f:PV→PV→Int} {l:List PV} {i j:Nat} {x:PV} {r B L:List PV} (h:Ap f l i j x r B L) (hs:sK f x r=x::r):L=OY f l (i+1):=by
 rw [h.all];unfold OY;rw [List.take_add_one,h.at_];simp only [Option.toList_some];rw [Uy,h.ins,hs];simp
open Go
open Go
open Go
open Go
open Go
abbrev Q3:=Rat × Rat × Rat
def R3.q (l:R3):Q3:=(l.1.q,l.2.1.q,l.2.2.q)
def Q3.sz (k:Nat) (l:Q3):Prop:=QB l.1 k∧QB l.2.1 k∧QB l.2.2 k
theorem R3.aQ {l:R3} {k m:Nat} (h:l.sz k) (hk:k≤m):l.sz m:=⟨RV.aQ h.1 hk,RV.aQ h.2.1 hk,RV.aQ h.2.2 hk⟩
theorem Q3.mono {l:Q3} {k m:Nat} (h:Q3.sz k l) (hk:k≤m):Q3.sz m l:=⟨h.1.mono hk,h.2.1.mono hk,h.2.2.mono hk⟩
theorem Q2.mono {l:Q2} {k m:Nat} (h:Q2.sz k l) (hk:k≤m):Q2.sz m l:=⟨h.1.mono hk,h.2.mono hk⟩
def zk:R3:=(dj,dj,dj)
def re (l:Q3):Q2:=(l.1,l.2.1)
def R3.n (l:R3):PV:=(l.1,l.2.1)
def aq (l:Q3) (p:Q2):Rat:=Dc (re l) p - l.2.2
def mB (l:Q3):Prop:=¬ (l.1=0∧l.2.1=0)
instance (l:Q3):Decidable (mB l):=inferInstanceAs (Decidable (¬ (_∧_)))
def dP (p q:Q2):Q3:=(p.2 - q.2,q.1 - p.1,(p.2 - q.2)*p.1+(q.1 - p.1)*p.2)
def qH (l m:Q3):Rat:=nI (re l) (re m)
def Ie (l m:Q3):Q2:=((l.2.2*m.2.1 - l.2.1*m.2.2) / qH l m,(l.1*m.2.2 - l.2.2*m.1) / qH l m)
def CQ:PV:=(dj,dj)
def LE.v (x:R3 × Int):Value:=.tuple ⟨[x.1.v,.int .i64 x.2]⟩
def PE.v (x:PV × Int):Value:=.tuple ⟨[x.1.v,.int .i64 x.2]⟩
def ZE.v (x:Int × Int):Value:=.tuple ⟨[.int .i64 x.1,.int .i64 x.2]⟩
def RV.o5 (i:RV):Prop:=20 < i.2.1.size∨20 < i.2.2.size
instance (i:RV):Decidable i.o5:=inferInstanceAs (Decidable (_∨_))
def R3.o5 (l:R3):Prop:=l.1.o5∨l.2.1.o5∨l.2.2.o5
instance (l:R3):Decidable l.o5:=inferInstanceAs (Decidable (_∨_∨_))
def PV.o5 (p:PV):Prop:=p.1.o5∨p.2.o5
instance (l:PV):Decidable l.o5:=inferInstanceAs (Decidable (_∨_))
open Go
theorem VH (k:Nat):zk.sz k:=⟨tX _,tX _,tX _⟩
theorem VI (k:Nat):CQ.sz k:=⟨tX _,tX _⟩
theorem yw {k:Nat}:QB dj.q (k+1):=RV.jQ (tX _) (by omega)
theorem VJ (k:Nat):Q3.sz (k+1) zk.q:=⟨yw,yw,yw⟩
theorem VK (k:Nat):Q2.sz (k+1) CQ.p:=⟨yw,yw⟩
theorem Ol {p q:Q2} {k l:Nat} (hp:Q2.sz k p) (hq:Q2.sz l q):Q3.sz (k+l+1+k+(k+l+1+k)+1) (dP p q) :=
 ⟨(hp.2.sub hq.2).mono (by omega),(hq.1.sub hp.1).mono (by omega),(((hp.2.sub hq.2).mul hp.1).add (((hq.1.sub hp.1).mono (show l+k+1≤k+l+1 by omega)).mul hp.2)).mono (by omega)⟩
theorem Om {l:Q3} {p:Q2} {k m:Nat} (hl:Q3.sz k l) (hp:Q2.sz m p):QB (aq l p) (k+m+(k+m)+1+k+1):=(ZS (a:=re l) ⟨hl.1,hl.2.1⟩ hp).sub hl.2.2
theorem On {l:Q3} {k:Nat} (hl:Q3.sz k l):Q2.sz k (re l):=⟨hl.1,hl.2.1⟩
theorem Oo {l m:Q3} {k j:Nat} (hl:Q3.sz k l) (hm:Q3.sz j m):QB (qH l m) (k+j+(k+j)+1):=yu (On hl) (On hm)
theorem ZV {l m:Q3} {k j:Nat} (hl:Q3.sz k l) (hm:Q3.sz j m):Q2.sz (k+j+(k+j)+1+(k+j+(k+j)+1)) (Ie l m) :=
 ⟨((hl.2.2.mul hm.2.1).sub (hl.2.1.mul hm.2.2)).div (Oo hl hm) (by omega),((hl.1.mul hm.2.2).sub (hl.2.2.mul hm.1)).div (Oo hl hm) (by omega)⟩
theorem z3 {k:Nat} (h:1≤k):zk.sz k∧Q3.sz k zk.q:=⟨VH _,Q3.mono (VJ 0) h⟩
theorem z2 {k:Nat} (h:1≤k):CQ.sz k∧Q2.sz k CQ.p:=⟨VI _,Q2.mono (VK 0) h⟩
theorem R3.nU {a b:R3} (h:a.v=b.v):a=b:=by
 have h:Value.agg ⟨[.bool a.1.1,.string a.1.2.1,.string a.1.2.2,.bool a.2.1.1,.string a.2.1.2.1,.string a.2.1.2.2,.bool a.2.2.1,.string a.2.2.2.1,.string a.2.2.2.2]⟩=Value.agg ⟨[.bool b.1.1,.string b.1.2.1,.string b.1.2.2,.bool b.2.1.1,.string b.2.1.2.1,.string b.2.1.2.2,.bool b.2.2.1,.string b.2.2.2.1,.string b.2.2.2.2]⟩:=h;simp only [Value.agg.injEq,Array.mk.injEq,List.cons.injEq,Value.bool.injEq,Value.string.injEq] at h;obtain ⟨h1,J,h3,h4,h5,h6,h7,h8,h9,_⟩:=h;exact Prod.ext (Prod.ext h1 (Prod.ext J h3)) (Prod.ext (Prod.ext h4 (Prod.ext h5 h6)) (Prod.ext h7 (Prod.ext h8 h9)))
theorem ju:QB (2:Rat) 1:=yU (n:=2) (by decide)
open Go
theorem dX (a b c:Q2):ao a b c=(b.1 - a.1)*(c.2 - a.2) - (b.2 - a.2)*(c.1 - a.1):=rfl
theorem wQ (a b c:Q2):ao a b c=ao b c a:=by rw [dX,dX]; grind
theorem yx (a b c:Q2):ao a c b=-ao a b c:=by rw [dX,dX]; grind
theorem BZ (a b:Q2):ao a a b=0:=by rw [dX]; grind
theorem pU (a b:Q2):ao a b a=0:=by rw [dX]; grind
theorem oG (a b:Q2):ao a b b=0:=by rw [dX]; grind
theorem MO (a b c d:Q2) (t:Rat):ao (atR a b t) c d=(1 - t)*ao a c d+t*ao b c d:=by
 simp only [dX,atR]; grind
theorem VL (a b c d:Q2) (t:Rat):ao c (atR a b t) d=(1 - t)*ao c a d+t*ao c b d:=by
 simp only [dX,atR]; grind
theorem BH (a b c d:Q2) (t:Rat):ao c d (atR a b t)=(1 - t)*ao c d a+t*ao c d b:=by
 simp only [dX,atR]; grind
theorem pK {x y t:Rat} (h0:0≤t) (h1:t≤1) (hx:0≤x) (hy:0≤y):0≤(1 - t)*x+t*y:=by
 have a:=Rat.mul_nonneg (show 0≤1 - t by grind) hx
 have b:=Rat.mul_nonneg h0 hy;grind
def oX (a:Q2) (l:List Q2):Prop:=l.Pairwise (fun b c=>0≤ao a b c)
def bD:List Q2→Prop
 | []=>True
 | a::l=>oX a l∧bD l
theorem bD.sublist {l m:List Q2} (h:bD m) (hs:l.Sublist m):bD l:=by
 induction hs with
 | slnil=>exact trivial
 | cons a hs ih=>exact ih h.2
 | cons_cons a hs ih=>exact ⟨h.1.sublist hs,ih h.2⟩
theorem bD.filter {l:List Q2} (h:bD l) (f:Q2→Bool):bD (l.filter f):=h.sublist List.filter_sublist
theorem oX.ins {a p q:Q2} {t:Rat} {A B:List Q2} (h0:0≤t) (h1:t≤1) (h:oX a (A++p::q::B)):oX a (A++p::atR p q t::q::B):=by
 unfold oX at *;rw [List.pairwise_append] at h ⊢;obtain ⟨hA,hB,lO⟩:=h;rw [List.pairwise_cons,List.pairwise_cons] at hB;obtain ⟨hp,hq,hB⟩:=hB;refine ⟨hA,?_,?_⟩
 ·rw [List.pairwise_cons,List.pairwise_cons,List.pairwise_cons];refine ⟨?_,?_,hq,hB⟩
  ·intro z hz;rcases List.mem_cons.1 hz with rfl | hz
   ·rw [BH,oG];exact pK h0 h1 (by grind) (hp _ (List.mem_cons_self ..))
   ·exact hp z hz
  ·intro z hz;rw [VL];rcases List.mem_cons.1 hz with rfl | hz
   ·exact pK h0 h1 (hp _ (List.mem_cons_self ..)) (by rw [oG]; grind)
   ·exact pK h0 h1 (hp _ (List.mem_cons_of_mem _ hz)) (hq _ hz)
 ·intro y hy z hz;rcases List.mem_cons.1 hz with rfl | hz
  ·exact lO y hy _ (List.mem_cons_self ..)
  ·rcases List.mem_cons.1 hz with rfl | hz
   ·rw [BH];exact pK h0 h1 (lO y hy _ (List.mem_cons_self ..)) (lO y hy _ (List.mem_cons_of_mem _ (List.mem_cons_self ..)))
   ·exact lO y hy _ (List.mem_cons_of_mem _ hz)
theorem bD.ins {p q:Q2} {t:Rat} {A B:List Q2} (h0:0≤t) (h1:t≤1) (h:bD (A++p::q::B)):bD (A++p::atR p q t::q::B):=by
 induction A with
 | cons a A ih=>exact ⟨h.1.ins h0 h1,ih h.2⟩
 | nil =>
  obtain ⟨hp,hq,hB⟩:=h;refine ⟨oX.ins (A:=[]) (p:=p) h0 h1 (by
   show List.Pairwise _ (p::q::B)
   rw [List.pairwise_cons];exact ⟨fun z hz=>by rw [BZ]; grind,hp⟩) |>.sublist (List.sublist_cons_self ..),?_,hq,hB⟩
  unfold oX at *;rw [List.pairwise_cons] at hp ⊢;obtain ⟨hp,hpB⟩:=hp;refine ⟨fun z hz=>?_,?_⟩
  ·rw [MO,BZ];exact pK h0 h1 (hp z hz) (by grind)
  ·exact (hpB.and hq).imp (fun ⟨x,y⟩=>by rw [MO]; exact pK h0 h1 x y)
theorem bD.snoc {A:List Q2} {x:Q2} (h:bD A) (hx:A.Pairwise (fun y z=>0≤ao y z x)):bD (A++[x]):=by
 induction A with
 | nil=>exact ⟨.nil,trivial⟩
 | cons a A ih =>
  rw [List.pairwise_cons] at hx;refine ⟨?_,ih h.2 hx.2⟩;show List.Pairwise _ (A++[x])
  rw [List.pairwise_append];exact ⟨h.1,by simp,fun y hy z hz=>by simp at hz; subst hz; exact hx.1 y hy⟩
theorem bD.adW {a:Q2} {l:List Q2} (h:bD (a::l)):bD (l++[a]) :=
 h.2.snoc (h.1.imp (fun {y z} h=>by rw [wQ,wQ]; rw [← wQ] at *; first | exact h | (rw [wQ]; exact h)))
theorem bD.s8 {A B:List Q2} (h:bD (A++B)):bD (B++A):=by
 induction A generalizing B with
 | nil=>rw [List.append_nil]; exact h
 | cons a A ih =>
  have:bD ((A++B)++[a]):=h.adW;rw [List.append_assoc] at this;have:=ih this
  rwa [List.append_assoc] at this
theorem bD.last {p h0:Q2} {t:Rat} {A:List Q2} (h1:0≤t) (J:t≤1) (h:bD (A++[p])) (hh:(A++[p]).head?=some h0):bD (A++[p,atR p h0 t]):=by
 have:=h.s8;cases A with
 | nil =>
  simp at hh; subst hh;exact ⟨by unfold oX; simp,by unfold oX; simp,trivial⟩
 | cons a A =>
  simp at hh; subst hh;have:=bD.ins (A:=[]) h1 J this;have:=bD.s8 (A:=[p,atR p a t]) (B:=a::A) this;exact this
open Go
def b9 {α:Type} (l:List α):List (α × α):=l.zip l.tail
def ba {α:Type} (l:List α):List (α × α):=b9 (l++l.head?.toList)
theorem kP {α:Type} (p q:α) (l:List α):b9 (p::q::l)=(p,q)::b9 (q::l):=rfl
theorem tK {α:Type} (A B:List α) (x:α):b9 (A++x::B)=b9 (A++[x])++b9 (x::B):=by
 induction A with
 | nil=>rfl
 | cons a A ih =>
  cases A with
  | nil=>rfl
  | cons b A =>
   show (a,b)::b9 (b::A++x::B)=(a,b)::b9 (b::A++[x])++_
   rw [ih]; rfl
theorem EV {α:Type} {l:List α} {e:α × α} (h:e∈b9 l):e.1∈l∧e.2∈l:=by
 have:=List.of_mem_zip h;exact ⟨this.1,List.mem_of_mem_tail this.2⟩
theorem v7 {α:Type} (h:α) (l:List α):ba (h::l)=b9 (h::l++[h]):=rfl
theorem mM {α:Type} {l:List α} {e:α × α} (h:e∈ba l):e.1∈l∧e.2∈l:=by
 cases l with
 | nil=>cases h
 | cons a l =>
  have:=EV h;simp at this ⊢;exact ⟨by rcases this.1 with h | h | h <;> simp [h],by rcases this.2 with h | h | h <;> simp [h]⟩
theorem yn {α:Type} {A B:List α} {e:α × α} (h:e∈ba (A++B)):e∈ba (B++A):=by
 cases A with
 | nil=>rw [List.append_nil]; exact h
 | cons a A =>
  cases B with
  | nil=>rw [List.append_nil] at h; exact h
  | cons b B =>
   have h1:ba (a::A++b::B)=b9 (a::A++[b])++b9 (b::B++[a]):=by
    show b9 ((a::A++b::B)++[a])=_
    rw [List.append_assoc];exact tK (a::A) (B++[a]) b
   have J:ba (b::B++a::A)=b9 (b::B++[a])++b9 (a::A++[b]):=by
    show b9 ((b::B++a::A)++[b])=_
    rw [List.append_assoc];exact tK (b::B) (A++[b]) a
   rw [h1] at h;rw [J];rcases List.mem_append.1 h with h | h
   ·exact List.mem_append_right _ h
   ·exact List.mem_append_left _ h
theorem Tg {α:Type} {l:List α} {i:Nat} {p q:α} (hp:l[i]?=some p) (hq:l[i+1]?=some q):(b9 l)[i]?=some (p,q):=by
 unfold b9;rw [List.getElem?_zip_eq_some];exact ⟨hp,by rw [List.getElem?_tail]; exact hq⟩
theorem mK {α:Type} (l:List α):(ba l).length=l.length:=by
 cases l with
 | nil=>rfl
 | cons a l=>rw [v7]; unfold b9; simp
theorem pL {α:Type} {l:List α} {i:Nat} {p q:α} (hp:l[i]?=some p) (hq:l[(i+1) % l.length]?=some q):(ba l)[i]?=some (p,q):=by
 cases l with
 | nil=>simp at hp
 | cons a l =>
  have hi:i < (a::l).length:=(List.getElem?_eq_some_iff.1 hp).1;rw [v7];refine Tg (by rw [List.getElem?_append_left hi]; exact hp) ?_
  rcases Nat.lt_or_eq_of_le (show i+1≤(a::l).length from hi) with h | h
  ·rw [Nat.mod_eq_of_lt h] at hq;rw [List.getElem?_append_left h]; exact hq
  ·rw [h,Nat.mod_self] at hq;rw [List.getElem?_append_right (by omega),h,Nat.sub_self]
   exact hq
theorem gd (l:Q3) (p:Q2):aq l p=l.1*p.1+l.2.1*p.2 - l.2.2:=rfl
theorem yy (m:Q3) (a b:Q2) (t:Rat):aq m (atR a b t)=(1 - t)*aq m a+t*aq m b:=by
 simp only [gd,atR]; grind
def iP (m:Q3) (p q:Q2):Rat:=aq m p / (aq m p - aq m q)
def gF (m:Q3) (p q:Q2):List Q2:=if a8 (aq m p) 0*a8 (aq m q) 0 < 0 then [atR p q (iP m p q)] else []
def l9 (m:Q3) (p:Q2):List Q2:=if a8 (aq m p) 0 ≥ 0 then [p] else []
def dc (m:Q3) (l:List Q2):List Q2:=(ba l).flatMap fun e=>l9 m e.1++gF m e.1 e.2
def PJ (m:Q3) (l:List Q2):List Q2:=(ba l).flatMap fun e=>e.1::gF m e.1 e.2
theorem Bq {m:Q3} {p q:Q2}:a8 (aq m p) 0*a8 (aq m q) 0 < 0↔(0 < aq m p∧aq m q < 0)∨(aq m p < 0∧0 < aq m q):=by
 rcases Bc (aq m p) with ⟨h1,J⟩ | ⟨h1,J⟩ | ⟨h1,J⟩ <;> rcases Bc (aq m q) with ⟨h3,h4⟩ | ⟨h3,h4⟩ | ⟨h3,h4⟩ <;> rw [J,h4] <;> constructor <;> intro h <;> first | grind | omega
theorem VM {x y:Rat} (h:(0 < x∧y < 0)∨(x < 0∧0 < y)):0≤x / (x - y)∧x / (x - y)≤1∧(x / (x - y))*(x - y)=x:=by
 have aI:x - y≠0:=by grind
 have e:(x / (x - y))*(x - y)=x:=by rw [Rat.div_def]; grind
 refine ⟨?_,?_,e⟩
 ·rcases h with ⟨h1,J⟩ | ⟨h1,J⟩
  ·by_cases h3:x / (x - y) < 0
   ·have:=Rat.mul_pos (show 0 < -(x / (x - y)) by grind) (show 0 < x - y by grind); grind
   ·grind
  ·by_cases h3:x / (x - y) < 0
   ·have:=Rat.mul_pos (show 0 < -(x / (x - y)) by grind) (show 0 < y - x by grind); grind
   ·grind
 ·rcases h with ⟨h1,J⟩ | ⟨h1,J⟩
  ·by_cases h3:1 < x / (x - y)
   ·have:=Rat.mul_pos (show 0 < x / (x - y) - 1 by grind) (show 0 < x - y by grind); grind
   ·grind
  ·by_cases h3:1 < x / (x - y)
   ·have:=Rat.mul_pos (show 0 < x / (x - y) - 1 by grind) (show 0 < y - x by grind); grind
   ·grind
theorem tG {m:Q3} {p q x:Q2} (h:x∈gF m p q):((0 < aq m p∧aq m q < 0)∨(aq m p < 0∧0 < aq m q))∧x=atR p q (iP m p q)∧0≤iP m p q∧iP m p q≤1∧aq m x=0:=by
 unfold gF at h
 split at h
 ·rename_i h1;have h1:=Bq.1 h1;simp at h;obtain ⟨J,h3,h4⟩:=VM h1;refine ⟨h1,h,J,h3,?_⟩;rw [h,yy];unfold iP;grind
 ·cases h
theorem Br {m:Q3} {p q:Q2} (h:(0 < aq m p∧aq m q < 0)∨(aq m p < 0∧0 < aq m q)):gF m p q=[atR p q (iP m p q)]:=by
 unfold gF; rw [if_pos (Bq.2 h)]
theorem Kk (m:Q3) (p q:Q2):gF m p q=[]∨(gF m p q=[atR p q (iP m p q)]∧0≤iP m p q∧iP m p q≤1):=by
 by_cases h:a8 (aq m p) 0*a8 (aq m q) 0 < 0
 ·have h1:=Br (Bq.1 h);have:=tG (x:=atR p q (iP m p q)) (by rw [h1]; simp)
  exact .inr ⟨h1,this.2.2.1,this.2.2.2.1⟩
 ·left; unfold gF; rw [if_neg h]
theorem Th (m:Q3) (l:List Q2):dc m l=(PJ m l).filter fun p=>decide (0≤aq m p):=by
 unfold dc PJ;rw [List.filter_flatMap]
 congr 1
 funext e
 rw [List.filter_cons];have h1:(gF m e.1 e.2).filter (fun p=>decide (0≤aq m p))=gF m e.1 e.2:=by
  rw [List.filter_eq_self];intro x hx;have:=(tG hx).2.2.2.2;rw [this]; decide
 rw [h1];unfold l9;by_cases h:0≤aq m e.1
 ·rw [if_pos (nD.2 h),if_pos (by simpa using h)]; rfl
 ·rw [if_neg (fun J=>h (nD.1 J)),if_neg (by simpa using h)]; rfl
theorem VN (m:Q3) {h:Q2}:∀ (B:List Q2) (p:Q2) (A:List Q2),bD (A++p::B)→(A++p::B).head?=some h→bD (A++(b9 (p::B++[h])).flatMap fun e=>e.1::gF m e.1 e.2):=by
 intro B
 induction B with
 | nil =>
  intro p A ht hh;show bD (A++((p::gF m p h)++[]))
  rw [List.append_nil];rcases Kk m p h with e | ⟨e,h1,J⟩
  ·rw [e]; exact ht
  ·rw [e]; exact ht.last h1 J hh
 | cons q B ih =>
  intro p A ht hh;show bD (A++((p::gF m p q)++(b9 (q::B++[h])).flatMap fun e=>e.1::gF m e.1 e.2))
  rw [← List.append_assoc];rcases Kk m p q with e | ⟨e,h1,J⟩
  ·rw [e];exact ih q (A++[p]) (by rw [List.append_assoc]; exact ht) (by rw [List.append_assoc]; exact hh)
  ·rw [e];refine ih q (A++[p,atR p q (iP m p q)]) ?_ ?_
   ·rw [List.append_assoc]; exact ht.ins h1 J
   ·cases A with
    | nil=>exact hh
    | cons a A=>exact hh
theorem MP {m:Q3} {l:List Q2} (h:bD l):bD (dc m l):=by
 rw [Th];refine bD.filter ?_ _;cases l with
 | nil=>exact trivial
 | cons a l=>exact VN m l a [] h rfl
open Go
def cM (P:List Q2) (p:Q2):Prop:=∀ f:Q3,(∀ v∈P,0≤aq f v)→0≤aq f p
theorem cM.l6 {P:List Q2} {v:Q2} (h:v∈P):cM P v:=fun f hf=>hf v h
theorem cM.trans {P Q:List Q2} {p:Q2} (h:cM P p) (hq:∀ v∈P,cM Q v):cM Q p:=fun f hf=>h f (fun v hv=>hq v hv f hf)
theorem cM.mono {P Q:List Q2} {p:Q2} (h:cM P p) (hq:∀ v∈P,v∈Q):cM Q p:=h.trans fun v hv=>.l6 (hq v hv)
theorem cM.nil (p:Q2):¬ cM [] p:=fun h=>by
 have:=h (0,0,1) (fun v hv=>nomatch hv)
 rw [gd] at this;grind
theorem cM.at {P:List Q2} {a b:Q2} {t:Rat} (ha:cM P a) (hb:cM P b) (h0:0≤t) (h1:t≤1):cM P (atR a b t):=fun f hf=>by
 rw [yy]; exact pK h0 h1 (ha f hf) (hb f hf)
theorem NH {m:Q3} {P:List Q2} {x:Q2} (h:x∈dc m P):(x∈P∧0≤aq m x)∨∃ e∈ba P,x∈gF m e.1 e.2:=by
 unfold dc at h;obtain ⟨e,he,hx⟩:=List.mem_flatMap.1 h;rcases List.mem_append.1 hx with hx | hx
 ·left
  unfold l9 at hx
  split at hx
  ·rename_i hc;simp at hx;rw [hx];exact ⟨(mM he).1,nD.1 hc⟩
  ·cases hx
 ·exact .inr ⟨e,he,hx⟩
theorem Ti {α:Type} {l:List α} {x:α} (h:x∈l):∃ y,(x,y)∈ba l:=by
 obtain ⟨i,hi,rfl⟩:=List.getElem_of_mem h;have J:(i+1) % l.length < l.length:=Nat.mod_lt _ (by omega)
 have:=pL (List.getElem?_eq_getElem hi) (List.getElem?_eq_getElem J);exact ⟨_,List.mem_of_getElem? this⟩
theorem MQ {m:Q3} {P:List Q2} {x:Q2} (h:x∈P) (hm:0≤aq m x):x∈dc m P:=by
 obtain ⟨y,hy⟩:=Ti h;unfold dc;refine List.mem_flatMap.2 ⟨_,hy,List.mem_append_left _ ?_⟩;unfold l9;rw [if_pos (nD.2 hm)];exact List.mem_cons_self ..
theorem Ma {m:Q3} {P:List Q2} {x y:Q2} (he:(x,y)∈ba P) (h:(0≤aq m x∧aq m y < 0)∨(aq m x≤0∧0 < aq m y)):∃ t,0≤t∧t≤1∧atR x y t∈dc m P∧aq m (atR x y t)=0:=by
 by_cases h0:aq m x=0
 ·refine ⟨0,by grind,by grind,?_,by rw [yy,h0]; grind⟩
  have:atR x y 0=x:=by unfold atR; exact Prod.ext (by grind) (by grind)
  rw [this];exact MQ (mM he).1 (by grind)
 ·have J:(0 < aq m x∧aq m y < 0)∨(aq m x < 0∧0 < aq m y):=by grind
  have h3:=Br J;have h4:=tG (x:=atR x y (iP m x y)) (by rw [h3]; simp)
  refine ⟨_,h4.2.2.1,h4.2.2.2.1,?_,h4.2.2.2.2⟩;unfold dc;exact List.mem_flatMap.2 ⟨_,he,List.mem_append_right _ (by rw [h3]; simp)⟩
theorem Mb {m:Q3}:∀ (l:List Q2) (a:Q2),0≤aq m a→(∃ w∈l,aq m w < 0)→∃ x y,(x,y)∈b9 (a::l)∧0≤aq m x∧aq m y < 0:=by
 intro l
 induction l with
 | nil=>rintro a _ ⟨w,hw,_⟩; cases hw
 | cons b l ih =>
  rintro a ha ⟨w,hw,hm⟩
  rw [kP];by_cases hb:aq m b < 0
  ·exact ⟨a,b,List.mem_cons_self ..,ha,hb⟩
  ·rcases List.mem_cons.1 hw with rfl | hw
   ·exact absurd hm hb
   ·obtain ⟨x,y,h1,J⟩:=ih b (by grind) ⟨w,hw,hm⟩
    exact ⟨x,y,List.mem_cons_of_mem _ h1,J⟩
def Ig (m:Q3):Q3:=(-m.1,-m.2.1,-m.2.2)
theorem FZ (m:Q3) (p:Q2):aq (Ig m) p=-aq m p:=by rw [gd,gd]; unfold Ig; grind
theorem Tj {m:Q3} (l:List Q2) (a:Q2) (h:aq m a≤0) (hw:∃ w∈l,0 < aq m w):∃ x y,(x,y)∈b9 (a::l)∧aq m x≤0∧0 < aq m y:=by
 obtain ⟨x,y,h1,J,h3⟩:=Mb (m:=Ig m) l a (by rw [FZ]; grind) (by obtain ⟨w,h1,J⟩:=hw; exact ⟨w,h1,by rw [FZ]; grind⟩)
 rw [FZ] at J h3;exact ⟨x,y,h1,by grind,by grind⟩
theorem Tk (f m:Q3) (v w z:Q2):∃ α β γ:Rat,(∀ z,(aq m v - aq m w)*aq f z=α*aq m z+β*ao v w z+γ):=by
 refine ⟨-(f.1*(w.1 - v.1)+f.2.1*(w.2 - v.2)),-(m.1*f.2.1 - m.2.1*f.1),(aq m v - aq m w)*aq f v - -(f.1*(w.1 - v.1)+f.2.1*(w.2 - v.2))*aq m v,fun z=>?_⟩
 simp only [gd,dX];grind
theorem Tl (f m:Q3):∀ P:List Q2,∃ k:Rat,0≤k∧(∀ v∈P,aq m v < 0→0≤aq f v - k*aq m v)∧(k=0∨∃ w∈P,aq m w < 0∧aq f w=k*aq m w):=by
 intro P
 induction P with
 | nil=>exact ⟨0,by grind,(fun v hv=>by cases hv),.inl rfl⟩
 | cons v P ih =>
  obtain ⟨k,hk,h1,J⟩:=ih;by_cases hv:aq m v < 0∧aq f v - k*aq m v < 0
  ·obtain ⟨lM,DF⟩:=hv;have e:aq f v / aq m v*aq m v=aq f v:=by rw [Rat.div_def]; grind
   obtain ⟨j,hj⟩:∃ j,j=aq f v / aq m v:=⟨_,rfl⟩;rw [← hj] at e;have al:k < j:=by
    by_cases h:k < j
    ·exact h
    ·have:=Rat.mul_nonneg (show 0≤k - j by grind) (show 0≤-aq m v by grind)
     grind
   refine ⟨j,by grind,fun u hu hm=>?_,.inr ⟨v,List.mem_cons_self ..,lM,e.symm⟩⟩
   rcases List.mem_cons.1 hu with rfl | hu
   ·rw [e]; grind
   ·have h3:=h1 u hu hm;have:=Rat.mul_nonneg (show 0≤j - k by grind) (show 0≤-aq m u by grind)
    grind
  ·refine ⟨k,hk,fun u hu hm=>?_,?_⟩
   ·rcases List.mem_cons.1 hu with rfl | hu
    ·have:¬ (aq f u - k*aq m u < 0):=fun h=>hv ⟨hm,h⟩
     grind
    ·exact h1 u hu hm
   ·rcases J with J | ⟨w,hw,J⟩
    ·exact .inl J
    ·exact .inr ⟨w,List.mem_cons_of_mem _ hw,J⟩
theorem bD.mid {v w x:Q2} {A B:List Q2} (h:bD (v::A++w::B)) (hx:x∈v::A++[w]):ao v w x≤0:=by
 have hl:List.Pairwise (fun b c=>0≤ao v b c) (A++w::B):=h.1
 rw [List.pairwise_append] at hl;simp only [List.cons_append,List.mem_cons,List.mem_append,List.not_mem_nil,or_false] at hx;rcases hx with rfl | hx | rfl
 ·rw [pU]; grind
 ·have:=hl.2.2 x hx w (List.mem_cons_self ..);rw [yx]; grind
 ·rw [oG]; grind
theorem bD.back {v w x:Q2} {A B:List Q2} (h:bD (v::A++w::B)) (hx:x∈w::B++[v]):0≤ao v w x:=by
 have hl:List.Pairwise (fun b c=>0≤ao v b c) (A++w::B):=h.1
 rw [List.pairwise_append,List.pairwise_cons] at hl;simp only [List.cons_append,List.mem_cons,List.mem_append,List.not_mem_nil,or_false] at hx;rcases hx with rfl | hx | rfl
 ·rw [oG]; grind
 ·exact hl.2.1.1 x hx
 ·rw [pU]; grind
theorem WY {m f:Q3} {P:List Q2} {v w:Q2} (hT:bD P) (hf:∀ x∈dc m P,0≤aq f x) (hv:v∈P) (hw:w∈P) (sU:0 < aq m v) (Jo:aq m w < 0):0≤aq f v*(-aq m w)+aq f w*aq m v:=by
 obtain ⟨P1,P2,rfl⟩:=List.append_of_mem hv;have I5:w∈P2++P1:=by
  rcases List.mem_append.1 hw with h | h
  ·exact List.mem_append_right _ h
  ·rcases List.mem_cons.1 h with rfl | h
   ·grind
   ·exact List.mem_append_left _ h
 obtain ⟨A,B,lO⟩:=List.append_of_mem I5;have mC:bD (v::A++w::B):=by
  have:=hT.s8;rw [List.cons_append,lO] at this;exact this
 have OZ:∀ e,e∈ba (v::A++w::B)→e∈ba (P1++v::P2):=fun e he=>by
  refine yn (A:=v::P2) ?_;rw [List.cons_append,lO]; exact he
 have Oq:ba (v::A++w::B)=b9 (v::A++[w])++b9 (w::B++[v]):=by
  show b9 ((v::A++w::B)++[v])=_
  rw [List.append_assoc];exact tK (v::A) (B++[v]) w
 obtain ⟨x1,y1,QM,jo,gq⟩:=Mb (m:=m) (A++[w]) v (by grind) ⟨w,by simp,Jo⟩
 obtain ⟨x2,y2,cj,nZ,n3⟩:=Tj (m:=m) (B++[v]) w (by grind) ⟨v,by simp,sU⟩
 have m1:=EV QM;have m2:=EV cj;obtain ⟨t1,Am,QC,qZ,P9⟩:=Ma (OZ _ (by rw [Oq]; exact List.mem_append_left _ QM)) (.inl ⟨jo,gq⟩)
 obtain ⟨t2,h20,h21,Jd,eH⟩:=Ma (OZ _ (by rw [Oq]; exact List.mem_append_right _ cj)) (.inr ⟨nZ,n3⟩)
 have I6:=hf _ qZ;have hf2:=hf _ Jd;have hg1:ao v w (atR x1 y1 t1)≤0:=by
  rw [BH];have:=pK Am QC (show 0≤-ao v w x1 by have:=mC.mid m1.1; grind) (show 0≤-ao v w y1 by have:=mC.mid m1.2; grind)
  grind
 have s9:0≤ao v w (atR x2 y2 t2):=by
  rw [BH];exact pK h20 h21 (mC.back m2.1) (mC.back m2.2)
 obtain ⟨α,β,γ,hF⟩:=Tk f m v w v;have ev:=hF v;have ew:=hF w;have e1:=hF (atR x1 y1 t1);have e2:=hF (atR x2 y2 t2);rw [P9] at e1;rw [eH] at e2;rw [pU] at ev;rw [oG] at ew;obtain ⟨D,hD⟩:∃ D,D=aq m v - aq m w:=⟨_,rfl⟩;have xR:0 < D:=by grind
 rw [← hD] at ev ew e1 e2;have xP:0≤γ:=by
  by_cases hβ:0≤β
  ·have a:=Rat.mul_nonneg hβ (show 0≤-ao v w (atR x1 y1 t1) by grind)
   have b:=Rat.mul_nonneg (show 0≤D by grind) I6
   grind
  ·have a:=Rat.mul_nonneg (show 0≤-β by grind) s9
   have b:=Rat.mul_nonneg (show 0≤D by grind) hf2
   grind
 have:D*(aq f v*(-aq m w)+aq f w*aq m v)=D*γ:=by grind
 have:aq f v*(-aq m w)+aq f w*aq m v=γ:=by
  have h:=congrArg (· / D) this;simp only [Rat.div_def] at h;grind
 rw [this]; exact xP
theorem VO {m:Q3} {P:List Q2} {p:Q2} (hT:bD P) (h:cM P p) (hm:0≤aq m p):cM (dc m P) p:=fun f hf=>by
 obtain ⟨k,hk,h1,J⟩:=Tl f m P;have hg:∀ v∈P,0≤aq (f.1 - k*m.1,f.2.1 - k*m.2.1,f.2.2 - k*m.2.2) v:=fun v hv=>by
  have e:aq (f.1 - k*m.1,f.2.1 - k*m.2.1,f.2.2 - k*m.2.2) v=aq f v - k*aq m v:=by simp only [gd]; grind
  rw [e];by_cases hn:aq m v < 0
  ·exact h1 v hv hn
  ·have hfv:=hf v (MQ hv (by grind))
   rcases J with rfl | ⟨w,hw,Jo,hfw⟩
   ·grind
   ·by_cases h0:aq m v=0
    ·rw [h0]; grind
    ·have:=WY hT hf hv hw (by grind) Jo
     rw [hfw] at this;have e2:aq f v*-aq m w+k*aq m w*aq m v=(aq f v - k*aq m v)*(-aq m w):=by grind
     rw [e2] at this;by_cases h3:0≤aq f v - k*aq m v
     ·exact h3
     ·have:=Rat.mul_pos (show 0 < -(aq f v - k*aq m v) by grind) (show 0 < -aq m w by grind)
      grind
 have:=h _ hg;have e:aq (f.1 - k*m.1,f.2.1 - k*m.2.1,f.2.2 - k*m.2.2) p=aq f p - k*aq m p:=by simp only [gd]; grind
 rw [e] at this;have:=Rat.mul_nonneg hk hm;grind
theorem MR {m:Q3} {P:List Q2} {x:Q2} (h:x∈dc m P):cM P x∧0≤aq m x:=by
 rcases NH h with ⟨h1,J⟩ | ⟨e,he,hx⟩
 ·exact ⟨.l6 h1,J⟩
 ·have:=tG hx;refine ⟨?_,by rw [this.2.2.2.2]; grind⟩
  rw [this.2.1];exact (cM.l6 (mM he).1).at (.l6 (mM he).2) this.2.2.1 this.2.2.2.1
theorem Kl {m:Q3} {P:List Q2} {p:Q2} (hT:bD P):cM (dc m P) p↔cM P p∧0≤aq m p :=
 ⟨fun h=>⟨h.trans fun v hv=>(MR hv).1,h m fun v hv=>(MR hv).2⟩,fun h=>VO hT h.1 h.2⟩
open Go
def pA (a b:Q2):Q3:=(-(b.2 - a.2),b.1 - a.1,(b.1 - a.1)*a.2 - (b.2 - a.2)*a.1)
theorem oH (a b z:Q2):aq (pA a b) z=ao a b z:=by simp only [gd,dX,pA]; grind
def Ih (f g:Q3):Q3:=(f.1+g.1,f.2.1+g.2.1,f.2.2+g.2.2)
theorem MS (f g:Q3) (z:Q2):aq (Ih f g) z=aq f z+aq g z:=by simp only [gd,Ih]; grind
theorem Gz {a b:Q2} (h:a≠b):mB (pA a b):=fun ⟨h1,J⟩=>h (Prod.ext (by unfold pA at J; grind) (by unfold pA at h1; grind))
theorem Km {α:Type} {l:List α} {e:α × α} (h:e∈b9 l):∃ A B,l=A++e.1::e.2::B:=by
 induction l with
 | nil=>cases h
 | cons a l ih =>
  cases l with
  | nil=>cases h
  | cons b l =>
   rw [kP] at h;rcases List.mem_cons.1 h with rfl | h
   ·exact ⟨[],l,rfl⟩
   ·obtain ⟨A,B,lO⟩:=ih h;exact ⟨a::A,B,by rw [lO]; rfl⟩
theorem VP {α:Type} {P:List α} {a b:α} (h:(a,b)∈ba P):(P=[a]∧b=a)∨∃ X Y M,P=X++Y∧Y++X=a::b::M:=by
 cases P with
 | nil=>cases h
 | cons c l =>
  obtain ⟨A,B,lO⟩:=Km h;have lO:c::l++[c]=A++a::b::B:=lO;rcases List.eq_nil_or_concat B with rfl | ⟨B,d,rfl⟩
  ·have h1:c::l++[c]=(A++[a])++[b]:=by rw [lO]; simp
   have J:=List.append_inj' h1 rfl;simp at J;obtain ⟨J,h3⟩:=J;cases A with
   | nil =>
    simp at J
    left; rw [J.1,J.2]; exact ⟨rfl,h3.symm.trans J.1⟩
   | cons x A =>
    right
    refine ⟨x::A,[a],A,by rw [J],?_⟩
    have:c=x:=by injection J
    show a::x::A=_
    rw [← this,h3]
  ·have h1:c::l++[c]=(A++a::b::B)++[d]:=by rw [lO]; simp
   have J:=(List.append_inj' h1 rfl).1
   right
   exact ⟨A,a::b::B,B++A,J,rfl⟩
theorem oC {P:List Q2} {a b z:Q2} (hT:bD P) (h:(a,b)∈ba P) (hz:z∈P):0≤ao a b z:=by
 rcases VP h with ⟨rfl,rfl⟩ | ⟨X,Y,M,rfl,J⟩
 ·rw [BZ]; grind
 ·have mC:=hT.s8;rw [J] at mC;have oa:z∈a::b::M:=by
   rw [← J]; rcases List.mem_append.1 hz with h | h
   ·exact List.mem_append_right _ h
   ·exact List.mem_append_left _ h
  have:=mC.1;unfold oX at this;rw [List.pairwise_cons] at this;rcases List.mem_cons.1 oa with rfl | oa
  ·rw [pU]; grind
  ·rcases List.mem_cons.1 oa with rfl | oa
   ·rw [oG]; grind
   ·exact this.1 z oa
theorem Bs {P:List Q2} {a b z:Q2} (hT:bD P) (h:(a,b)∈ba P) (hz:cM P z):0≤ao a b z:=by
 rw [← oH];exact hz _ fun v hv=>by rw [oH]; exact oC hT h hv
def fF (P:List Q2) (v:Q2):Prop:=cM P v∧∃ f,aq f v=0∧∀ z,cM P z→z≠v→0 < aq f z
def gJ (P Q:List Q2):Prop:=∀ p,cM P p↔cM Q p
theorem gJ.symm {P Q:List Q2} (h:gJ P Q):gJ Q P:=fun p=>(h p).symm
theorem gJ.trans {P Q R:List Q2} (h:gJ P Q) (g:gJ Q R):gJ P R:=fun p=>(h p).trans (g p)
theorem gJ.rfl' {P:List Q2}:gJ P P:=fun p=>Iff.rfl
theorem gJ.l6 {P Q:List Q2} (h:∀ v,v∈P↔v∈Q):gJ P Q:=fun p=>⟨fun hp=>hp.mono fun v hv=>(h v).1 hv,fun hp=>hp.mono fun v hv=>(h v).2 hv⟩
theorem fF.same {P Q:List Q2} {v:Q2} (h:fF P v) (hs:gJ P Q):fF Q v :=
 ⟨(hs v).1 h.1,h.2.imp fun f hf=>⟨hf.1,fun z hz aI=>hf.2 z ((hs z).2 hz) aI⟩⟩
theorem Uz (f:Q3):∀ P:List Q2,(∀ v∈P,0 < aq f v)→∃ e:Rat,0 < e∧∀ v∈P,e≤aq f v:=by
 intro P
 induction P with
 | nil=>exact fun _=>⟨1,by grind,fun v hv=>by cases hv⟩
 | cons a P ih =>
  intro h;obtain ⟨e,he,hP⟩:=ih fun v hv=>h v (List.mem_cons_of_mem _ hv)
  have ha:=h a (List.mem_cons_self ..);by_cases hc:e≤aq f a
  ·exact ⟨e,he,fun v hv=>by rcases List.mem_cons.1 hv with rfl | hv; exact hc; exact hP v hv⟩
  ·exact ⟨aq f a,ha,fun v hv=>by
    rcases List.mem_cons.1 hv with rfl | hv
    ·grind
    ·have:=hP v hv; grind⟩
theorem fF.mem {P:List Q2} {v:Q2} (h:fF P v):v∈P:=by
 refine Decidable.byContradiction fun hn=>?_
 obtain ⟨h1,f,J,h3⟩:=h;obtain ⟨e,he,h4⟩:=Uz f P fun z hz=>h3 z (.l6 hz) fun e=>hn (e ▸ hz)
 have:=h1 (f.1,f.2.1,f.2.2+e) fun z hz=>by
  have:=h4 z hz;have e2:aq (f.1,f.2.1,f.2.2+e) z=aq f z - e:=by simp only [gd]; grind
  rw [e2]; grind
 have e2:aq (f.1,f.2.1,f.2.2+e) v=aq f v - e:=by simp only [gd]; grind
 rw [e2,J] at this;grind
theorem WZ {p v q z:Q2} (h1:ao p v z=0) (J:ao v q z=0) (h:ao p v q≠0):z=v:=by
 rw [dX] at h1 J h;have a:((v.1 - p.1)*(q.2 - p.2) - (v.2 - p.2)*(q.1 - p.1))*(z.1 - v.1)=0:=by grind
 have b:((v.1 - p.1)*(q.2 - p.2) - (v.2 - p.2)*(q.1 - p.1))*(z.2 - v.2)=0:=by grind
 have a:=(Rat.mul_eq_zero.1 a).resolve_left h;have b:=(Rat.mul_eq_zero.1 b).resolve_left h;exact Prod.ext (by grind) (by grind)
theorem Li {P:List Q2} {p v q:Q2} (hT:bD P) (h1:(p,v)∈ba P) (J:(v,q)∈ba P) (h:ao p v q≠0):fF P v:=by
 refine ⟨.l6 (mM J).1,Ih (pA p v) (pA v q),?_,fun z hz aI=>?_⟩
 ·rw [MS,oH,oH,oG,pU]; grind
 ·rw [MS,oH,oH];have a:=Bs hT h1 hz;have b:=Bs hT J hz;by_cases h0:ao p v z+ao v q z=0
  ·exact absurd (WZ (by grind) (by grind) h) aI
  ·grind
theorem fF.A3 {P:List Q2} {v a b:Q2} {t:Rat} (h:fF P v) (ha:cM P a) (hb:cM P b) (hav:a≠v) (hbv:b≠v) (h0:0 < t) (h1:t < 1):v≠atR a b t:=fun e=>by
 obtain ⟨_,f,J,h3⟩:=h;have x:=h3 a ha hav;have y:=h3 b hb hbv;rw [e,yy] at J;have:=Rat.mul_pos (show 0 < 1 - t by grind) x
 have:=Rat.mul_pos h0 y;grind
def Flat (P:List Q2):Prop:=∃ f,mB f∧∀ v∈P,aq f v=0
theorem VQ {P:List Q2} {a b:Q2} (h:¬ Flat P) (dI:a≠b):∃ z∈P,ao a b z≠0:=by
 refine Decidable.byContradiction fun hn=>h ⟨pA a b,Gz dI,fun v hv=>?_⟩
 rw [oH];exact Decidable.byContradiction fun h=>hn ⟨v,hv,h⟩
theorem Flat.mono {P Q:List Q2} (h:Flat Q) (hs:∀ v∈P,v∈Q):Flat P:=h.imp fun f hf=>⟨hf.1,fun v hv=>hf.2 v (hs v hv)⟩
theorem Lj {P:List Q2} {p v q:Q2} (hT:bD P) (hF:¬ Flat P) (h1:(p,v)∈ba P) (J:(v,q)∈ba P) (lP:p≠v) (cW:v≠q) (h:ao p v q=0):∃ t,0 < t∧t < 1∧v=atR p q t:=by
 obtain ⟨z,hz,ny⟩:=VQ hF lP;have a:=oC hT h1 hz;have b:=oC hT J hz;obtain ⟨s,QN,pj⟩:∃ s:Rat,q.1 - v.1=s*(v.1 - p.1)∧q.2 - v.2=s*(v.2 - p.2):=by
  rw [dX] at h;by_cases hx:v.1 - p.1=0
  ·have hy:v.2 - p.2≠0:=fun hy=>lP (Prod.ext (by grind) (by grind))
   refine ⟨(q.2 - v.2) / (v.2 - p.2),?_,?_⟩
   ·rw [hx] at h ⊢;have:(v.2 - p.2)*(q.1 - p.1)=0:=by grind
    have:=(Rat.mul_eq_zero.1 this).resolve_left hy;grind
   ·rw [Rat.div_def]; grind
  ·refine ⟨(q.1 - v.1) / (v.1 - p.1),?_,?_⟩
   ·rw [Rat.div_def]; grind
   ·rw [Rat.div_def];have:(v.1 - p.1)*(q.2 - v.2)=(v.1 - p.1)*((q.1 - v.1)*(v.1 - p.1)⁻¹*(v.2 - p.2)):=by grind
    have h0:(v.1 - p.1)*((q.2 - v.2) - ((q.1 - v.1)*(v.1 - p.1)⁻¹*(v.2 - p.2)))=0:=by grind
    have:=(Rat.mul_eq_zero.1 h0).resolve_left hx;grind
 have e:ao v q z=s*ao p v z:=by
  rw [dX,dX,QN,pj]; grind
 have hs:0 < s:=by
  by_cases h0:s=0
  ·subst h0;exact absurd (Prod.ext (by grind) (by grind)) cW
  ·by_cases h1:0 < s
   ·exact h1
   ·have:=Rat.mul_pos (show 0 < -s by grind) (show 0 < ao p v z by grind)
    grind
 have aI:1+s≠0:=by grind
 have hi:(1+s)⁻¹*(1+s)=1:=by grind
 have fN:0 < (1+s)⁻¹:=by
  by_cases h1:0 < (1+s)⁻¹
  ·exact h1
  ·have:=Rat.mul_nonneg (show 0≤-(1+s)⁻¹ by grind) (show 0≤1+s by grind)
   grind
 refine ⟨(1+s)⁻¹,fN,?_,?_⟩
 ·have:=Rat.mul_pos fN hs;grind
 ·unfold atR;refine Prod.ext ?_ ?_
  ·have:q.1 - p.1=(1+s)*(v.1 - p.1):=by grind
   show v.1=p.1+(q.1 - p.1)*(1+s)⁻¹
   rw [this]; grind
  ·have:q.2 - p.2=(1+s)*(v.2 - p.2):=by grind
   show v.2=p.2+(q.2 - p.2)*(1+s)⁻¹
   rw [this]; grind
theorem VR {α:Type} [DecidableEq α]:∀ {l:List α},(∀ A h B C,l≠A++h::B++h::C)→l.Nodup:=by
 intro l
 induction l with
 | nil=>exact fun _=>.nil
 | cons a l ih =>
  intro h;rw [List.nodup_cons];refine ⟨fun hm=>?_,ih fun A x B C e=>h (a::A) x B C (by rw [e]; rfl)⟩
  obtain ⟨B,C,e⟩:=List.append_of_mem hm;exact h [] a B C (by rw [e]; rfl)
theorem Flat.s8 {A B:List Q2} (h:Flat (A++B)):Flat (B++A):=h.mono fun v hv=>by
 rcases List.mem_append.1 hv with h | h
 ·exact List.mem_append_right _ h
 ·exact List.mem_append_left _ h
theorem Lk {P:List Q2} (hT:bD P) (hF:¬ Flat P) (aI:∀ e∈ba P,e.1≠e.2):P.Nodup:=by
 refine VR fun A h B C e=>?_
 subst e;have mC:bD (h::B++h::(C++A)):=by
  have:=bD.s8 (A:=A) (B:=h::B++h::C) (by simpa using hT)
  simpa using this
 have DM:¬ Flat (h::B++h::(C++A)):=fun J=>hF (by
  have:=Flat.s8 (A:=h::B++h::C) (B:=A) (by simpa using J)
  simpa using this)
 have zH:∀ e∈ba (h::B++h::(C++A)),e.1≠e.2:=fun e he=>aI e (by
  have:=yn (A:=h::B++h::C) (B:=A) (e:=e) (by simpa using he)
  simpa using this)
 generalize C++A=D at mC DM zH;cases B with
 | nil=>exact zH (h,h) (by rw [show h::([]:List Q2)++h::D=h::h::D from rfl,v7]; exact List.mem_cons_self ..) rfl
 | cons q B =>
  cases D with
  | nil =>
   refine zH (h,h) ?_ rfl;show (h,h)∈b9 ((h::q::B++[h])++[h])
   rw [List.append_assoc];show (h,h)∈b9 (h::q::B++h::[h])
   rw [tK];exact List.mem_append_right _ (List.mem_cons_self ..)
  | cons r D =>
   have e1:(h,q)∈ba (h::(q::B)++h::r::D):=by
    show (h,q)∈b9 (h::q::(B++h::r::D++[h]))
    exact List.mem_cons_self ..
   have e2:(h,r)∈ba (h::(q::B)++h::r::D):=by
    show (h,r)∈b9 ((h::(q::B)++h::r::D)++[h])
    rw [List.append_assoc];show (h,r)∈b9 (h::(q::B)++h::(r::D++[h]))
    rw [tK];exact List.mem_append_right _ (List.mem_cons_self ..)
   have hq:h≠q:=zH _ e1;have hr:h≠r:=zH _ e2;have hD:∀ z∈r::D,ao h q z=0:=fun z hz=>by
    have a:=oC mC e1 (z:=z) (List.mem_append_right _ (List.mem_cons_of_mem _ hz));have hl:bD (q::B++h::r::D):=mC.2;have:=bD.mid (A:=B) (B:=r::D) (x:=z) (v:=q) (w:=h);have hb:=bD.back (A:=B) (B:=r::D) (x:=z) (v:=q) (w:=h) hl (by
     show z∈h::(r::D)++[q]
     exact List.mem_append_left _ (List.mem_cons_of_mem _ hz))
    have:ao q h z=-ao h q z:=by rw [dX,dX]; grind
    grind
   have hB:∀ z∈q::B,ao h r z=0:=fun z hz=>by
    have a:=oC mC e2 (z:=z) (List.mem_append_left _ (List.mem_cons_of_mem _ hz));have hl:List.Pairwise (fun b c=>0≤ao h b c) (q::B++h::r::D):=mC.1
    rw [List.pairwise_append] at hl;have:=hl.2.2 z hz r (List.mem_cons_of_mem _ (List.mem_cons_self ..));rw [yx] at this;grind
   refine DM ⟨pA h q,Gz hq,fun v hv=>?_⟩
   rw [oH];have Jl:=hB q (List.mem_cons_self ..);rcases List.mem_append.1 hv with hv | hv
   ·rcases List.mem_cons.1 hv with rfl | hv
    ·exact pU _ _
    ·have DF:=hB v hv;rw [dX] at DF Jl ⊢;have H9:r.1 - h.1≠0∨r.2 - h.2≠0:=by
      by_cases x:r.1 - h.1=0
      ·right; exact fun y=>hr (Prod.ext (by grind) (by grind))
      ·exact .inl x
     rcases H9 with x | x
     ·have:(r.1 - h.1)*((q.1 - h.1)*(v.2 - h.2) - (q.2 - h.2)*(v.1 - h.1))=0:=by grind
      exact (Rat.mul_eq_zero.1 this).resolve_left x
     ·have:(r.2 - h.2)*((q.1 - h.1)*(v.2 - h.2) - (q.2 - h.2)*(v.1 - h.1))=0:=by grind
      exact (Rat.mul_eq_zero.1 this).resolve_left x
   ·rcases List.mem_cons.1 hv with rfl | hv
    ·exact pU _ _
    ·exact hD v hv
theorem RB {α:Type} {R:α→α→Prop} (has:∀ a b,R a b→¬ R b a):∀ {l m:List α},l.Pairwise R→m.Pairwise R→(∀ x,x∈l↔x∈m)→l=m:=by
 intro l
 induction l with
 | nil =>
  intro m _ _ h;cases m with
  | nil=>rfl
  | cons b m=>have:=(h b).2 (List.mem_cons_self ..); cases this
 | cons a l ih =>
  intro m hl hm h;cases m with
  | nil=>have:=(h a).1 (List.mem_cons_self ..); cases this
  | cons b m =>
   rw [List.pairwise_cons] at hl hm;have QO:∀ x,¬ R x x:=fun x hx=>has x x hx hx
   have dI:a=b:=by
    rcases List.mem_cons.1 ((h a).1 (List.mem_cons_self ..)) with e | e
    ·exact e
    ·rcases List.mem_cons.1 ((h b).2 (List.mem_cons_self ..)) with e2 | e2
     ·exact e2.symm
     ·exact absurd (hl.1 b e2) (has _ _ (hm.1 a e))
   subst dI;rw [ih hl.2 hm.2 fun x=>⟨fun hx=>?_,fun hx=>?_⟩]
   ·rcases List.mem_cons.1 ((h x).1 (List.mem_cons_of_mem _ hx)) with e | e
    ·subst e; exact absurd (hl.1 _ hx) (QO _)
    ·exact e
   ·rcases List.mem_cons.1 ((h x).2 (List.mem_cons_of_mem _ hx)) with e | e
    ·subst e; exact absurd (hm.1 _ hx) (QO _)
    ·exact e
theorem AM {P:List Q2} {a b c:Q2} (ha:fF P a) (hb:fF P b) (hc:fF P c) (dI:a≠b) (Aq:a≠c) (pg:b≠c):ao a b c≠0:=fun h=>by
 obtain ⟨s,QN,pj⟩:∃ s:Rat,c.1 - a.1=s*(b.1 - a.1)∧c.2 - a.2=s*(b.2 - a.2):=by
  rw [dX] at h;by_cases hx:b.1 - a.1=0
  ·have hy:b.2 - a.2≠0:=fun hy=>dI (Prod.ext (by grind) (by grind))
   refine ⟨(c.2 - a.2) / (b.2 - a.2),?_,?_⟩
   ·rw [hx] at h ⊢;have:(b.2 - a.2)*(c.1 - a.1)=0:=by grind
    have:=(Rat.mul_eq_zero.1 this).resolve_left hy;grind
   ·rw [Rat.div_def]; grind
  ·refine ⟨(c.1 - a.1) / (b.1 - a.1),?_,?_⟩
   ·rw [Rat.div_def]; grind
   ·rw [Rat.div_def];have h0:(b.1 - a.1)*((c.2 - a.2) - ((c.1 - a.1)*(b.1 - a.1)⁻¹*(b.2 - a.2)))=0:=by grind
    have:=(Rat.mul_eq_zero.1 h0).resolve_left hx;grind
 have h0:s≠0:=fun e=>by subst e; exact Aq (Prod.ext (by grind) (by grind))
 have h1:s≠1:=fun e=>by subst e; exact pg (Prod.ext (by grind) (by grind))
 have inv:∀ x:Rat,0 < x→0 < x⁻¹∧x⁻¹*x=1:=fun x hx=>by
  have e:x⁻¹*x=1:=by grind
  refine ⟨?_,e⟩;by_cases h1:0 < x⁻¹
  ·exact h1
  ·have:=Rat.mul_nonneg (show 0≤-x⁻¹ by grind) (show 0≤x by grind)
   grind
 rcases QJ s with h | h | h
 ·-- a lies between c and b
  obtain ⟨i0,i1⟩:=inv (1 - s) (by grind)
  refine ha.A3 hc.1 hb.1 (Ne.symm Aq) (Ne.symm dI) (t:=(-s)*(1 - s)⁻¹) (Rat.mul_pos (by grind) i0) ?_ ?_
  ·grind
  ·unfold atR; exact Prod.ext (by grind) (by grind)
 ·exact h0 h
 ·by_cases J:s < 1
  ·-- c lies between a and b
   refine hc.A3 ha.1 hb.1 Aq pg h J ?_;unfold atR; exact Prod.ext (by grind) (by grind)
  ·obtain ⟨i0,i1⟩:=inv s h;refine hb.A3 ha.1 hc.1 dI (Ne.symm pg) (t:=s⁻¹) i0 ?_ ?_
   ·have:=Rat.mul_pos i0 (show 0 < s - 1 by grind); grind
   ·unfold atR; exact Prod.ext (by grind) (by grind)
theorem KI {P:List Q2} {h:Q2} {A B:List Q2} (hA:bD (h::A)) (hB:bD (h::B)) (nA:(h::A).Nodup) (nB:(h::B).Nodup) (eA:∀ v,v∈h::A↔fF P v) (eB:∀ v,v∈h::B↔fF P v):A=B:=by
 have key:∀ {A:List Q2},bD (h::A)→(h::A).Nodup→(∀ v,v∈h::A↔fF P v)→A.Pairwise (fun a b=>0 < ao h a b):=by
  intro A hA nA eA;rw [List.nodup_cons] at nA;have h1:List.Pairwise (fun a b=>0≤ao h a b) A:=hA.1
  have J:List.Pairwise (fun a b=>a≠b) A:=nA.2
  have h3:=List.Pairwise.and_mem.1 (h1.and J);refine h3.imp fun {a b} ⟨ha,hb,h4,h5⟩=>?_
  have:=AM ((eA h).1 (List.mem_cons_self ..)) ((eA a).1 (List.mem_cons_of_mem _ ha)) ((eA b).1 (List.mem_cons_of_mem _ hb)) (fun e=>nA.1 (e ▸ ha)) (fun e=>nA.1 (e ▸ hb)) h5
  grind
 rw [List.nodup_cons] at nA nB;refine RB (R:=fun a b=>0 < ao h a b) (fun a b x y=>by rw [yx] at y; grind) (key hA (List.nodup_cons.2 nA) eA) (key hB (List.nodup_cons.2 nB) eB) fun x=>?_
 constructor
 ·intro hx;have:=(eB x).2 ((eA x).1 (List.mem_cons_of_mem _ hx));rcases List.mem_cons.1 this with e | e
  ·subst e; exact absurd hx nA.1
  ·exact e
 ·intro hx;have:=(eA x).2 ((eB x).1 (List.mem_cons_of_mem _ hx));rcases List.mem_cons.1 this with e | e
  ·subst e; exact absurd hx nB.1
  ·exact e
open Go
def aw (l:List Q2) (k:Nat):Q2:=l.getD k (0,0)
theorem g7 {l:List Q2} {k:Nat} (h:k < l.length):l[k]?=some (aw l k):=by
 unfold aw; rw [List.getD_eq_getElem?_getD,List.getElem?_eq_getElem h]; rfl
theorem rV {l:List Q2} {k:Nat} {p:Q2} (h:l[k]?=some p):aw l k=p:=by
 unfold aw; rw [List.getD_eq_getElem?_getD,h]; rfl
theorem eK {l:List Q2} {k:Nat} (h:k < l.length):aw l k∈l:=List.mem_of_getElem? (g7 h)
theorem pV {l:List Q2} {v:Q2} (h:v∈l):∃ k,k < l.length∧aw l k=v:=by
 obtain ⟨k,hk,rfl⟩:=List.getElem_of_mem h;exact ⟨k,hk,rV (List.getElem?_eq_getElem hk)⟩
def aY (n k:Nat):Nat:=(k+1) % n
def dz (n k:Nat):Nat:=(k+n - 1) % n
theorem cO {n k:Nat} (h:k < n):aY n k < n:=Nat.mod_lt _ (by omega)
theorem jf {n k:Nat} (h:k < n):dz n k < n:=Nat.mod_lt _ (by omega)
theorem B0 {n k:Nat} (h:k < n):aY n (dz n k)=k:=by
 unfold aY dz;rw [Nat.mod_add_mod,show k+n - 1+1=k+n by omega,Nat.add_mod_right,Nat.mod_eq_of_lt h]
theorem B5 {n k:Nat} (h:k < n):dz n (aY n k)=k:=by
 unfold aY dz;rcases Nat.lt_or_eq_of_le (show k+1≤n from h) with h1 | h1
 ·rw [Nat.mod_eq_of_lt h1,show k+1+n - 1=k+n by omega,Nat.add_mod_right,Nat.mod_eq_of_lt h]
 ·rw [h1,Nat.mod_self,show 0+n - 1=k by omega,Nat.mod_eq_of_lt h]
theorem w9 {n k:Nat} (h:k < n) (hn:1 < n):aY n k≠k:=fun e=>by
 unfold aY at e;rcases Nat.lt_or_eq_of_le (show k+1≤n from h) with h1 | h1
 ·rw [Nat.mod_eq_of_lt h1] at e; omega
 ·rw [h1,Nat.mod_self] at e; omega
theorem Ot {n k:Nat} (h:k < n) (hn:1 < n):dz n k≠k:=fun e=>by
 have h1:=B0 h;rw [e] at h1;exact w9 h hn h1
theorem kS {l:List Q2} {k:Nat} (h:k < l.length):(aw l k,aw l (aY l.length k))∈ba l:=List.mem_of_getElem? (pL (g7 h) (g7 (cO h)))
theorem rL {l:List Q2} {k:Nat} (h:k < l.length):(aw l (dz l.length k),aw l k)∈ba l:=by
 have:=kS (l:=l) (jf h)
 rwa [B0 h] at this
theorem BI {l:List Q2} {e:Q2 × Q2} (h:e∈ba l):∃ k,k < l.length∧e=(aw l k,aw l (aY l.length k)):=by
 obtain ⟨i,hi,rfl⟩:=List.getElem_of_mem h;have aR:i < l.length:=by rwa [mK] at hi
 refine ⟨i,aR,?_⟩;have:=pL (g7 aR) (g7 (cO aR));rw [List.getElem?_eq_getElem hi] at this;exact Option.some.inj this
def nd (l:List Q2) (k:Nat):Prop:=1 < l.length∧(aw l k=aw l (aY l.length k)∨2 < l.length∧ao (aw l (dz l.length k)) (aw l k) (aw l (aY l.length k))=0)
instance (l:List Q2) (k:Nat):Decidable (nd l k):=inferInstanceAs (Decidable (_∧_))
def kT (l:List Q2):Option Nat:=(List.range l.length).find? fun k=>decide (nd l k)
def G3:Nat→List Q2→List Q2
 | 0,l=>l
 | n+1,l=>match kT l with | none=>l | some k=>G3 n (l.eraseIdx k)
def fx (l:List Q2):List Q2:=G3 l.length l
theorem RT {l:List Q2} (h:∀ k,k < l.length→¬ nd l k):kT l=none:=by
 unfold kT;rw [List.find?_eq_none];intro k hk
 simpa using h k (List.mem_range.1 hk)
theorem RC {l:List Q2} (h:kT l=none):∀ k,k < l.length→¬ nd l k:=fun k hk=>by
 unfold kT at h;rw [List.find?_eq_none] at h
 simpa using h k (List.mem_range.2 hk)
theorem Ed {l:List Q2} {k:Nat} (h:kT l=some k):k < l.length∧nd l k:=by
 unfold kT at h;rw [List.find?_range_eq_some] at h;exact ⟨List.mem_range.1 h.2.1,by simpa using h.1⟩
theorem EB {l:List Q2} (h:kT l=none):fx l=l:=by
 unfold fx;cases l with
 | nil=>rfl
 | cons a l=>show (match kT (a::l) with | none=>_ | some k=>_)=_; rw [h]
theorem EC {l:List Q2} {k:Nat} (h:kT l=some k):fx l=fx (l.eraseIdx k):=by
 have hk:=(Ed h).1;unfold fx;rw [List.length_eraseIdx_of_lt hk];obtain ⟨n,hn⟩:∃ n,l.length=n+1:=⟨l.length - 1,by omega⟩
 rw [hn];show (match kT l with | none=>l | some k=>G3 n (l.eraseIdx k))=_
 rw [h]; rfl
theorem Fq {C:List Q2→Prop} (hs:∀ l k,kT l=some k→C (l.eraseIdx k)→C l) (h0:∀ l,kT l=none→C l):∀ (n:Nat) (l:List Q2),l.length=n→C l:=by
 intro n
 induction n with
 | zero=>intro l hl; exact h0 l (RT fun k hk=>by omega)
 | succ n ih =>
  intro l hl;cases e:kT l with
  | none=>exact h0 l e
  | some k=>exact hs l k e (ih _ (by rw [List.length_eraseIdx_of_lt (Ed e).1]; omega))
theorem Fs (l:List Q2):(fx l).Sublist l :=
 Fq (C:=fun l=>(fx l).Sublist l) (fun l k h hc=>by rw [EC h]; exact hc.trans (List.eraseIdx_sublist ..)) (fun l h=>by rw [EB h]; exact List.Sublist.refl _) _ l rfl
theorem MT (l:List Q2):∀ k,k < (fx l).length→¬ nd (fx l) k :=
 Fq (C:=fun l=>∀ k,k < (fx l).length→¬ nd (fx l) k) (fun l k h hc=>by rw [EC h]; exact hc) (fun l h=>by rw [EB h]; exact RC h) _ l rfl
theorem mem_erase {l:List Q2} {k j:Nat} (hj:j < l.length) (h:j≠k):aw l j∈l.eraseIdx k:=by
 rw [List.mem_eraseIdx_iff_getElem?];exact ⟨j,h,g7 hj⟩
theorem Tm {l:List Q2} {k:Nat} {v:Q2} (h:v∈l):v∈l.eraseIdx k∨(k < l.length∧v=aw l k):=by
 obtain ⟨j,hj,rfl⟩:=pV h;by_cases e:j=k
 ·subst e; exact .inr ⟨hj,rfl⟩
 ·exact .inl (mem_erase hj e)
theorem F0 {f:Q3} {a b:Q2} {t:Rat} (ha:aq f a=0) (hb:aq f b=0):aq f (atR a b t)=0:=by rw [yy,ha,hb]; grind
theorem Tn {l:List Q2} {k:Nat} (hT:bD l) (hF:¬ Flat l) (hk:k < l.length) (h:nd l k):gJ (l.eraseIdx k) l∧¬ Flat (l.eraseIdx k):=by
 obtain ⟨h1,J⟩:=h;have key:∀ (P:Q2→Prop),(∀ v∈l.eraseIdx k,P v)→(∀ a b t,P a→P b→0 < t→t < 1→P (atR a b t))→∀ v∈l,P v:=by
  intro P hP hm v hv;rcases Tm (k:=k) hv with h | ⟨_,rfl⟩
  ·exact hP v h
  ·by_cases e1:aw l k=aw l (aY l.length k)
   ·rw [e1]; exact hP _ (mem_erase (cO hk) (w9 hk h1))
   ·by_cases e2:aw l (dz l.length k)=aw l k
    ·rw [← e2]; exact hP _ (mem_erase (jf hk) (Ot hk h1))
    ·rcases J with J | ⟨J,h3⟩
     ·exact absurd J e1
     ·obtain ⟨t,t0,t1,ht⟩:=Lj hT hF (rL hk) (kS hk) e2 e1 h3;rw [ht];exact hm _ _ _ (hP _ (mem_erase (jf hk) (Ot hk h1))) (hP _ (mem_erase (cO hk) (w9 hk h1))) t0 t1
 refine ⟨fun p=>⟨fun hp=>hp.mono fun v hv=>(List.eraseIdx_sublist ..).subset hv,fun hp=>hp.trans ?_⟩,fun ⟨f,hf,hz⟩=>hF ⟨f,hf,?_⟩⟩
 ·exact key _ (fun v hv=>.l6 hv) fun a b t ha hb t0 t1=>ha.at hb (by grind) (by grind)
 ·exact key _ hz fun a b t ha hb _ _=>F0 ha hb
theorem EW {l:List Q2} (hT:bD l) (hF:¬ Flat l):gJ (fx l) l∧¬ Flat (fx l) :=
 Fq (C:=fun l=>bD l→¬ Flat l→gJ (fx l) l∧¬ Flat (fx l)) (fun l k h hc hT hF=>by
  rw [EC h];have J:=Ed h;obtain ⟨a,b⟩:=Tn hT hF J.1 J.2;obtain ⟨c,d⟩:=hc (hT.sublist (List.eraseIdx_sublist ..)) b;exact ⟨c.trans a,d⟩) (fun l h hT hF=>by rw [EB h]; exact ⟨.rfl',hF⟩) _ l rfl hT hF
theorem B6 {P:List Q2} (h:Flat P) {a b c:Q2} (ha:a∈P) (hb:b∈P) (hc:c∈P):ao a b c=0:=by
 obtain ⟨f,hf,hz⟩:=h;have x:=hz a ha;have y:=hz b hb;have z:=hz c hc;rw [gd] at x y z;rw [dX];by_cases h0:f.1=0
 ·have h1:f.2.1≠0:=fun e=>hf ⟨h0,e⟩
  have e:f.2.1*((b.1 - a.1)*(c.2 - a.2) - (b.2 - a.2)*(c.1 - a.1))=0:=by grind
  exact (Rat.mul_eq_zero.1 e).resolve_left h1
 ·have e:f.1*((b.1 - a.1)*(c.2 - a.2) - (b.2 - a.2)*(c.1 - a.1))=0:=by grind
  exact (Rat.mul_eq_zero.1 e).resolve_left h0
theorem Es (a b:Q2):∃ f:Q3,mB f∧aq f a=0∧aq f b=0:=by
 by_cases h:a=b
 ·subst h;exact ⟨(1,0,a.1),fun h=>absurd (show (1:Rat)=0 from h.1) (by decide),by rw [gd]; grind,by rw [gd]; grind⟩
 ·exact ⟨pA a b,Gz h,by rw [oH,pU],by rw [oH,oG]⟩
theorem To {P:List Q2} (h:P.length≤2):Flat P:=by
 match P,h with
 | [],_=>exact ⟨(1,0,0),fun h=>absurd h.1 (by decide),fun v hv=>by cases hv⟩
 | [a],_ =>
  obtain ⟨f,hf,h1,_⟩:=Es a a;exact ⟨f,hf,fun v hv=>by simp at hv; rw [hv]; exact h1⟩
 | [a,b],_ =>
  obtain ⟨f,hf,h1,J⟩:=Es a b;exact ⟨f,hf,fun v hv=>by simp at hv; rcases hv with rfl | rfl <;> assumption⟩
 | _::_::_::_,h=>simp at h
theorem Tp {l:List Q2} (hF:Flat l):(fx l).length≤2:=by
 refine Decidable.byContradiction fun h=>?_
 have h0:=MT l 0 (by omega)
 refine h0 ⟨by omega,.inr ⟨by omega,?_⟩⟩
 have DM:Flat (fx l):=hF.mono fun v hv=>(Fs l).subset hv
 exact B6 DM (eK (jf (by omega))) (eK (by omega)) (eK (cO (by omega)))
structure Ring (P:List Q2):Prop where
 eh:bD P
 three:3≤P.length
 rW:∀ k,k < P.length→0 < ao (aw P (dz P.length k)) (aw P k) (aw P (aY P.length k))
theorem Ring.ne {P:List Q2} (h:Ring P):∀ e∈ba P,e.1≠e.2:=fun e he=>by
 obtain ⟨k,hk,rfl⟩:=BI he;intro e2;have:=h.rW k hk;simp only at e2;rw [e2,oG] at this;grind
theorem Ring.ext {P:List Q2} (h:Ring P) {v:Q2}:v∈P↔fF P v:=by
 refine ⟨fun hv=>?_,fF.mem⟩
 obtain ⟨k,hk,rfl⟩:=pV hv;have:=h.rW k hk;exact Li h.eh (rL hk) (kS hk) (by grind)
theorem Ring.aci {P:List Q2} (h:Ring P):¬ Flat P:=fun hF=>by
 have hk:0 < P.length:=by have:=h.three; omega
 have:=h.rW 0 hk;rw [B6 hF (eK (jf hk)) (eK hk) (eK (cO hk))] at this;grind
theorem Ring.nodup {P:List Q2} (h:Ring P):P.Nodup:=Lk h.eh h.aci h.ne
theorem W0 {P:List Q2} (hT:bD P) (hF:¬ Flat P) (hn:∀ k,k < P.length→¬ nd P k):Ring P:=by
 have h3:3≤P.length:=Decidable.byContradiction fun h=>hF (To (by omega))
 refine ⟨hT,h3,fun k hk=>?_⟩
 have a:=oC hT (rL hk) (eK (cO hk));have b:ao (aw P (dz P.length k)) (aw P k) (aw P (aY P.length k))≠0:=fun e=>hn k hk ⟨by omega,.inr ⟨by omega,e⟩⟩
 grind
theorem Ll {l:List Q2} (hT:bD l) (hF:¬ Flat l):Ring (fx l):=W0 (hT.sublist (Fs l)) (EW hT hF).2 (MT l)
def nE (l:List Q2):Nat→Nat
 | 0=>0
 | i+1=>if fC (aw l i) (aw l (nE l i)) < 0 then i else nE l i
def p7 (l:List Q2):Nat:=nE l l.length
def eV (l:List Q2):List Q2:=l.drop (p7 l)++l.take (p7 l)
def il (a b:Q2):Prop:=a.1 < b.1∨a.1=b.1∧a.2≤b.2
theorem uf {a b:Q2}:il a b↔¬ fC b a < 0:=by
 unfold il fC;rcases Bc (b.1 - a.1) with ⟨h1,J⟩ | ⟨h1,J⟩ | ⟨h1,J⟩
 ·rw [FY b.1 a.1,J];constructor
  ·rintro (h | ⟨h,_⟩) <;> grind
  ·intro h; exact absurd (by rw [if_pos (by decide)]; decide) h
 ·rw [FY b.1 a.1,J,if_neg (by decide),FW]
  constructor
  ·rintro (h | ⟨h,h3⟩) <;> grind
  ·intro h; right; exact ⟨by grind,by grind⟩
 ·rw [FY b.1 a.1,J];constructor
  ·intro _; rw [if_pos (by decide)]; decide
  ·intro _; left; grind
theorem UA {a b c:Q2} (h:il a b) (g:il b c):il a c:=by unfold il at *; grind
theorem MU {a b:Q2} (h:il a b) (g:il b a):a=b:=by
 unfold il at *;exact Prod.ext (by grind) (by grind)
theorem VS (a:Q2):il a a:=by unfold il; right; exact ⟨rfl,by grind⟩
theorem UB {a b:Q2} (h:¬ il a b):il b a:=by unfold il at *; grind
theorem Kn (l:List Q2):∀ i,i≤l.length→(0 < l.length→nE l i < l.length)∧(∀ j,j < i→il (aw l (nE l i)) (aw l j)):=by
 intro i
 induction i with
 | zero=>intro _; exact ⟨fun h=>h,fun j hj=>absurd hj (Nat.not_lt_zero _)⟩
 | succ i ih =>
  intro hi;obtain ⟨h1,J⟩:=ih (by omega)
  unfold nE
  split
  ·rename_i hc;have hle:il (aw l i) (aw l (nE l i)):=UB fun h=>(uf.1 h) hc
   refine ⟨fun _=>by omega,fun j hj=>?_⟩
   rcases Nat.lt_or_eq_of_le (Nat.le_of_lt_succ hj) with h | h
   ·exact UA hle (J j h)
   ·subst h; exact VS _
  ·rename_i hc;refine ⟨h1,fun j hj=>?_⟩
   rcases Nat.lt_or_eq_of_le (Nat.le_of_lt_succ hj) with h | h
   ·exact J j h
   ·subst h; exact uf.2 hc
theorem tY {l:List Q2} {v:Q2}:v∈eV l↔v∈l:=by
 unfold eV;rw [List.mem_append];constructor
 ·rintro (h | h)
  ·exact List.mem_of_mem_drop h
  ·exact List.mem_of_mem_take h
 ·intro h;rw [← List.take_append_drop (p7 l) l,List.mem_append] at h;exact h.symm
theorem A4 (l:List Q2):(eV l).length=l.length:=by
 unfold eV;rw [List.length_append,List.length_drop,List.length_take]; omega
theorem Ft {l:List Q2} (h:bD l):bD (eV l):=bD.s8 (by rw [List.take_append_drop]; exact h)
theorem EX {l:List Q2} (h:l.Nodup):(eV l).Nodup:=by
 have hp:(eV l).Perm l:=by
  unfold eV;refine List.perm_append_comm.trans ?_;rw [List.take_append_drop]
 exact hp.nodup_iff.2 h
theorem Fu {l:List Q2} (h:l≠[]):∃ a A,eV l=a::A∧∀ v∈l,il a v:=by
 have hl:0 < l.length:=List.length_pos_iff.2 h;have hs:=Kn l l.length (Nat.le_refl _);refine ⟨aw l (p7 l),l.drop (p7 l+1)++l.take (p7 l),?_,fun v hv=>?_⟩
 ·unfold eV;have al:p7 l < l.length:=hs.1 hl;rw [List.drop_eq_getElem_cons al];have:l[p7 l]'al=aw l (p7 l):=by
   have:=g7 al;rw [List.getElem?_eq_getElem al] at this;exact Option.some.inj this
  rw [List.cons_append,this]
 ·obtain ⟨j,hj,rfl⟩:=pV hv;exact hs.2 j hj
theorem RU {P A B:List Q2} (hA:bD A) (hB:bD B) (nA:A.Nodup) (nB:B.Nodup) (eA:∀ v,v∈A↔fF P v) (eB:∀ v,v∈B↔fF P v):eV A=eV B:=by
 by_cases xT:A=[]
 ·subst xT;have:B=[]:=by
   cases B with
   | nil=>rfl
   | cons b B=>have:=(eA b).2 ((eB b).1 (List.mem_cons_self ..)); cases this
  rw [this]
 ·have hB0:B≠[]:=fun e=>by
   subst e;cases A with
   | nil=>exact xT rfl
   | cons b B=>have:=(eB b).2 ((eA b).1 (List.mem_cons_self ..)); cases this
  obtain ⟨a,A',ha,la⟩:=Fu xT;obtain ⟨b,B',hb,lb⟩:=Fu hB0;have ha':a∈A:=tY.1 (by rw [ha]; exact List.mem_cons_self ..)
  have bA:b∈B:=tY.1 (by rw [hb]; exact List.mem_cons_self ..)
  have dI:a=b:=MU (la b ((eA b).2 ((eB b).1 bA))) (lb a ((eB a).2 ((eA a).1 ha')));subst dI;rw [ha,hb]
  congr 1
  refine KI (P:=P) (h:=a) (by rw [← ha]; exact Ft hA) (by rw [← hb]; exact Ft hB) (by rw [← ha]; exact EX nA) (by rw [← hb]; exact EX nB) (fun v=>?_) (fun v=>?_)
  ·rw [← ha,tY]; exact eA v
  ·rw [← hb,tY]; exact eB v
theorem fF.iff {P Q:List Q2} (h:gJ P Q) (v:Q2):fF P v↔fF Q v:=⟨fun x=>x.same h,fun x=>x.same h.symm⟩
open Go
theorem oE {a b:Q2}:fC a b=0↔a=b:=Uw.trans ⟨fun h=>Prod.ext h.1 h.2,fun h=>by rw [h]; exact ⟨rfl,rfl⟩⟩
def m5 (e:Q2 × Q2):List Q2:=if fC e.1 e.2≠0 then [e.1] else []
def gw (l:List Q2):List Q2:=(ba l).flatMap m5
def nN (l:List Q2) (i:Nat):List Q2:=if ao (aw l (dz l.length i)) (aw l i) (aw l (aY l.length i))≠0 then [aw l i] else []
def jz (l:List Q2):List Q2:=(List.range l.length).flatMap (nN l)
def fH (l:List Q2):List Q2:=if (jz (gw l)).length < 3 then [] else eV (jz (gw l))
theorem ED {α β:Type} (g:α→β) (f:α→List β) (h:∀ a,(f a).Sublist [g a]):∀ l:List α,(l.flatMap f).Sublist (l.map g)
 | []=>.slnil
 | a::l=>by
  rw [List.flatMap_cons,List.map_cons];exact (h a).append (ED g f h l)
theorem UC {α:Type} (l:List α):(ba l).map Prod.fst=l:=by
 refine List.ext_getElem (by rw [List.length_map,mK]) fun i h1 J=>?_
 have h3:(i+1) % l.length < l.length:=Nat.mod_lt _ (by omega)
 have:=pL (List.getElem?_eq_getElem J) (List.getElem?_eq_getElem h3);rw [List.getElem_map];rw [List.length_map] at h1;rw [List.getElem?_eq_getElem h1] at this;rw [Option.some.inj this]
theorem x6 (l:List Q2):(gw l).Sublist l:=by
 have:=ED Prod.fst m5 (fun e=>by
  unfold m5
  split
  ·exact List.Sublist.refl _
  ·exact List.nil_sublist _) (ba l)
 rw [UC] at this;exact this
theorem W2 (l:List Q2):(List.range l.length).map (aw l)=l:=by
 refine List.ext_getElem (by simp) fun i h1 J=>?_
 simp;exact rV (List.getElem?_eq_getElem J)
theorem A5 (l:List Q2):(jz l).Sublist l:=by
 have:=ED (aw l) (nN l) (fun e=>by
  unfold nN
  split
  ·exact List.Sublist.refl _
  ·exact List.nil_sublist _) (List.range l.length)
 rw [W2] at this;exact this
theorem W3 (z:Q2):∀ (L:List Q2) (a:Q2),(a::L).getLast?=some z→((b9 (a::L)).flatMap m5++[z]).head?=some a∧∀ e∈b9 ((b9 (a::L)).flatMap m5++[z]),e.1≠e.2:=by
 intro L
 induction L with
 | nil =>
  intro a h;simp at h;subst h;exact ⟨rfl,fun e he=>by cases he⟩
 | cons b L ih =>
  intro a h;obtain ⟨h1,J⟩:=ih b (by rw [List.getLast?_cons_cons] at h; exact h)
  rw [kP,List.flatMap_cons,List.append_assoc];obtain ⟨X,hX⟩:∃ X,X=(b9 (b::L)).flatMap m5++[z]:=⟨_,rfl⟩;rw [← hX] at h1 J ⊢;unfold m5;by_cases dI:a=b
  ·rw [if_neg (by simp only [ne_eq]; exact fun h=>h (oE.2 dI))]
   rw [dI]; exact ⟨h1,J⟩
  ·rw [if_pos (fun h=>dI (oE.1 h))]
   refine ⟨rfl,?_⟩;cases X with
   | nil=>simp at h1
   | cons c X =>
    simp at h1;subst h1;intro e he;rw [show [(a,c).1]++c::X=a::c::X from rfl,kP] at he
    rcases List.mem_cons.1 he with rfl | he
    ·exact dI
    ·exact J e he
theorem KJ (l:List Q2):∀ e∈ba (gw l),e.1≠e.2:=by
 cases l with
 | nil=>intro e he; cases he
 | cons h B =>
  obtain ⟨h1,J⟩:=W3 h (B++[h]) h (by rw [← List.cons_append,List.getLast?_append]; rfl)
  have hd:gw (h::B)=(b9 (h::(B++[h]))).flatMap m5:=rfl;rw [← hd] at h1 J;cases hD:gw (h::B) with
  | nil=>intro e he; cases he
  | cons d D =>
   rw [hD] at h1 J;simp at h1;subst h1;intro e he;exact J e he
theorem KK {α:Type} {l m:List α} {e:α × α} (h:e∈b9 l):e∈b9 (l++m):=by
 obtain ⟨A,B,rfl⟩:=Km h;rw [List.append_assoc,List.cons_append,tK];exact List.mem_append_right _ (List.mem_cons_self ..)
theorem leave {v:Q2}:∀ (l:List Q2),(∃ w∈l,w≠v)→∃ y,(v,y)∈b9 (v::l)∧v≠y:=by
 intro l
 induction l with
 | nil=>rintro ⟨w,hw,_⟩; cases hw
 | cons b l ih =>
  rintro ⟨w,hw,aI⟩
  by_cases hb:b=v
  ·subst hb;rcases List.mem_cons.1 hw with rfl | hw
   ·exact absurd rfl aI
   ·obtain ⟨y,h1,J⟩:=ih ⟨w,hw,aI⟩;exact ⟨y,List.mem_cons_of_mem _ h1,J⟩
  ·exact ⟨b,List.mem_cons_self ..,Ne.symm hb⟩
theorem Ko {l:List Q2} (hF:¬ Flat l) {v:Q2}:v∈gw l↔v∈l:=by
 refine ⟨fun h=>(x6 l).subset h,fun h=>?_⟩
 obtain ⟨w,hw,aI⟩:∃ w∈l,w≠v:=by
  refine Decidable.byContradiction fun hn=>hF ?_
  obtain ⟨f,hf,h1,_⟩:=Es v v;exact ⟨f,hf,fun x hx=>by
   have:x=v:=Decidable.byContradiction fun h=>hn ⟨x,hx,h⟩
   rw [this]; exact h1⟩
 obtain ⟨A,B,rfl⟩:=List.append_of_mem h;obtain ⟨y,h1,J⟩:=leave (v:=v) (B++A) ⟨w,by
  rcases List.mem_append.1 hw with h | h
  ·exact List.mem_append_right _ h
  ·rcases List.mem_cons.1 h with h | h
   ·exact absurd h aI
   ·exact List.mem_append_left _ h,aI⟩
 have he:(v,y)∈ba (A++v::B):=yn (A:=v::B) (KK (m:=[v]) h1);unfold gw;refine List.mem_flatMap.2 ⟨_,he,?_⟩;unfold m5;rw [if_pos (fun h=>J (oE.1 h))]
 exact List.mem_cons_self ..
theorem Tq {D:List Q2} (hT:bD D) (hF:¬ Flat D) (aI:∀ e∈ba D,e.1≠e.2) (v:Q2):v∈jz D↔fF D v:=by
 constructor
 ·intro h;unfold jz at h;obtain ⟨i,hi,hv⟩:=List.mem_flatMap.1 h;have hi:=List.mem_range.1 hi;unfold nN at hv
  split at hv
  ·rename_i hc;simp at hv;rw [hv];exact Li hT (rL hi) (kS hi) hc
  ·cases hv
 ·intro h;obtain ⟨i,hi,rfl⟩:=pV h.mem;unfold jz;refine List.mem_flatMap.2 ⟨i,List.mem_range.2 hi,?_⟩;unfold nN;by_cases hc:ao (aw D (dz D.length i)) (aw D i) (aw D (aY D.length i))=0
  ·have n1:=aI _ (rL hi);have n2:=aI _ (kS hi);obtain ⟨t,t0,t1,ht⟩:=Lj hT hF (rL hi) (kS hi) n1 n2 hc;exact absurd ht (h.A3 (.l6 (eK (jf hi))) (.l6 (eK (cO hi))) n1 (Ne.symm n2) t0 t1)
  ·rw [if_pos hc]; exact List.mem_cons_self ..
theorem W4 {P:List Q2} (hT:bD P) (hF:¬ Flat P):fH P=eV (fx P)∧3≤(fx P).length:=by
 have hr:=Ll hT hF;have Jp:bD (gw P):=hT.sublist (x6 P);have DN:¬ Flat (gw P):=fun h=>hF (h.mono fun v hv=>(Ko hF).2 hv)
 have hs:gJ (gw P) P:=.l6 fun v=>Ko hF
 have mz:=Lk Jp DN (KJ P);have eC:∀ v,v∈jz (gw P)↔fF P v:=fun v=>(Tq Jp DN (KJ P) v).trans (fF.iff hs v)
 have eR:∀ v,v∈fx P↔fF P v:=fun v=>hr.ext.trans (fF.iff (EW hT hF).1 v)
 have he:=RU (Jp.sublist (A5 _)) hr.eh (mz.sublist (A5 _)) hr.nodup eC eR;refine ⟨?_,hr.three⟩;unfold fH;have hl:=congrArg List.length he;rw [A4,A4] at hl;rw [if_neg (by have:=hr.three; omega),he]
theorem UD {P:List Q2} (hF:Flat P):fH P=[]∧(fx P).length < 3:=by
 refine ⟨?_,by have:=Tp hF; omega⟩
 have DN:Flat (gw P):=hF.mono fun v hv=>(x6 P).subset hv
 have:jz (gw P)=[]:=by
  unfold jz;rw [List.flatMap_eq_nil_iff];intro i hi;have hi:=List.mem_range.1 hi;unfold nN;rw [if_neg (by simp only [ne_eq]; exact fun h=>h (B6 DN (eK (jf hi)) (eK hi) (eK (cO hi))))]
 unfold fH;rw [this,if_pos (by decide)]
abbrev Q4:=Q2 × Q2
def adX (b:Q4):List Q2:=[b.1,(b.2.1,b.1.2),b.2,(b.1.1,b.2.2)]
def okB (b:Q4):Prop:=b.1.1≤b.2.1∧b.1.2≤b.2.2
def PK (b:Q4) (p:Q2):Prop:=b.1.1≤p.1∧p.1≤b.2.1∧b.1.2≤p.2∧p.2≤b.2.2
def Hz (b:Q4) (l:List Q3):List Q2:=l.foldl (fun P m=>dc m P) (adX b)
open Go
def mD (S:Q3→Prop) (e:Q2 × Q2):Prop:=∃ m,S m∧mB m∧aq m e.1=0∧aq m e.2=0
theorem ZW {l m:Q3} {x:Q2} (hx:aq l x=0) (hy:aq m x=0) (h:qH l m≠0):x=Ie l m:=by
 unfold qH at h;have e:qH l m=nI (re l) (re m):=rfl;rw [show nI (re l) (re m)=l.1*m.2.1 - l.2.1*m.1 from rfl] at h e
 rw [gd] at hx hy;unfold Ie;rw [e];refine Prod.ext ?_ ?_
 ·show x.1=_
  rw [Rat.div_def]; grind
 ·show x.2=_
  rw [Rat.div_def]; grind
theorem ZX {l m:Q3} {a b:Q2} (hl:mB l) (ha:aq l a=0) (hb:aq l b=0) (h:aq m a≠aq m b):qH l m≠0:=fun e=>by
 rw [show qH l m=l.1*m.2.1 - l.2.1*m.1 from rfl] at e
 rw [gd] at ha hb;rw [gd,gd] at h;by_cases h0:l.1=0
 ·have h1:l.2.1≠0:=fun e=>hl ⟨h0,e⟩
  have:l.2.1*(m.1*a.1+m.2.1*a.2 - m.2.2 - (m.1*b.1+m.2.1*b.2 - m.2.2))=0:=by grind
  have:=(Rat.mul_eq_zero.1 this).resolve_left h1;exact h (by grind)
 ·have:l.1*(m.1*a.1+m.2.1*a.2 - m.2.2 - (m.1*b.1+m.2.1*b.2 - m.2.2))=0:=by grind
  have:=(Rat.mul_eq_zero.1 this).resolve_left h0;exact h (by grind)
def m9 (m:Q3) (e:Q2 × Q2):List Q2:=l9 m e.1++gF m e.1 e.2
theorem NI (m:Q3) (l:List Q2):dc m l=(ba l).flatMap (m9 m):=rfl
theorem F1 {m:Q3} {a:Q2} (h:0≤aq m a):l9 m a=[a]:=by unfold l9; rw [if_pos (nD.2 h)]
theorem F2 {m:Q3} {a:Q2} (h:aq m a < 0):l9 m a=[]:=by unfold l9; rw [if_neg (fun J=>by have:=nD.1 J; grind)]
theorem F3 {m:Q3} {a b:Q2} (h:¬ ((0 < aq m a∧aq m b < 0)∨(aq m a < 0∧0 < aq m b))):gF m a b=[]:=by unfold gF; rw [if_neg (fun J=>h (Bq.1 J))]
theorem x7 {S:Q2 × Q2→Prop} {a:Q2} {X:List Q2} (h:∀ x,X.head?=some x→S (a,x)) (hX:∀ e∈b9 X,S e):∀ e∈b9 (a::X),S e:=by
 cases X with
 | nil=>intro e he; cases he
 | cons x X =>
  intro e he;rw [kP] at he;rcases List.mem_cons.1 he with rfl | he
  ·exact h x rfl
  ·exact hX e he
theorem VT {S:Q3→Prop} {m:Q3} (hS:S m) (hm:mB m) (z:Q2):∀ (L:List Q2) (a:Q2),(a::L).getLast?=some z→(∀ e∈b9 (a::L),mD S e) →
  ∃ X,(b9 (a::L)).flatMap (m9 m)++l9 m z=X∧(∀ e∈b9 X,mD S e)∧(0≤aq m a→X.head?=some a)∧(aq m a < 0→∀ x,X.head?=some x→aq m x=0)∧(aq m z < 0→∀ x,X.getLast?=some x→aq m x=0):=by
 intro L
 induction L with
 | nil =>
  intro a hz DO;simp at hz;subst hz;by_cases ha:0≤aq m a
  ·refine ⟨[a],by rw [F1 ha]; rfl,(fun e he=>by cases he),fun _=>rfl,fun h=>absurd ha (by grind),fun h=>absurd ha (by grind)⟩
  ·exact ⟨[],by rw [F2 (by grind)]; rfl,(fun e he=>by cases he),fun h=>absurd h ha,(fun h x hx=>by cases hx),(fun h x hx=>by cases hx)⟩
 | cons b L ih =>
  intro a hz DO;rw [kP] at DO;obtain ⟨X,hX,h1,J,h3,h4⟩:=ih b (by rw [List.getLast?_cons_cons] at hz; exact hz) fun e he=>DO e (List.mem_cons_of_mem _ he)
  obtain ⟨k,hk,Jq,ka,kb⟩:=DO (a,b) (List.mem_cons_self ..);rw [kP,List.flatMap_cons,List.append_assoc,hX];show ∃ Y,(l9 m a++gF m a b)++X=Y∧_
  have last:∀ Z:List Q2,X≠[]→∀ x,(Z++X).getLast?=some x→X.getLast?=some x:=fun Z aI x hx=>by
   rw [List.getLast?_append] at hx;cases e:X.getLast? with
   | none=>exact absurd (List.getLast?_eq_none_iff.1 e) aI
   | some y=>rw [e] at hx; exact hx
  by_cases ha:0≤aq m a
  ·rw [F1 ha];by_cases hb:0≤aq m b
   ·rw [F3 (by grind),List.append_nil]
    have hh:=J hb;refine ⟨a::X,rfl,x7 (fun x hx=>?_) h1,fun _=>rfl,fun h=>absurd ha (by grind),fun h x hx=>h4 h x (last [a] (fun e=>by rw [e] at hh; cases hh) x hx)⟩
    rw [hh] at hx; cases hx;exact ⟨k,hk,Jq,ka,kb⟩
   ·by_cases h0:aq m a=0
    ·rw [F3 (by grind),List.append_nil]
     refine ⟨a::X,rfl,x7 (fun x hx=>⟨m,hS,hm,h0,h3 (by grind) x hx⟩) h1,fun _=>rfl,fun h=>absurd ha (by grind),fun h x hx=>?_⟩
     by_cases Ar:X=[]
     ·subst Ar; simp at hx; rw [← hx]; exact h0
     ·exact h4 h x (last [a] Ar x hx)
    ·have hc:=Br (m:=m) (p:=a) (q:=b) (.inl ⟨by grind,by grind⟩)
     have hs:=tG (x:=atR a b (iP m a b)) (by rw [hc]; simp)
     rw [hc];refine ⟨a::atR a b (iP m a b)::X,rfl,x7 (fun x hx=>?_) (x7 (fun x hx=>⟨m,hS,hm,hs.2.2.2.2,h3 (by grind) x hx⟩) h1),fun _=>rfl,fun h=>absurd ha (by grind),fun h x hx=>?_⟩
     ·simp at hx;rw [← hx];exact ⟨k,hk,Jq,ka,F0 ka kb⟩
     ·by_cases Ar:X=[]
      ·subst Ar; simp at hx; rw [← hx]; exact hs.2.2.2.2
      ·exact h4 h x (last [a,atR a b (iP m a b)] Ar x hx)
  ·rw [F2 (by grind),List.nil_append]
   by_cases hb:0 < aq m b
   ·have hc:=Br (m:=m) (p:=a) (q:=b) (.inr ⟨by grind,by grind⟩)
    have hs:=tG (x:=atR a b (iP m a b)) (by rw [hc]; simp)
    have hh:=J (by grind)
    rw [hc];refine ⟨atR a b (iP m a b)::X,rfl,x7 (fun x hx=>?_) h1,fun h=>absurd h ha,fun _ x hx=>?_,fun h x hx=>h4 h x (last [atR a b (iP m a b)] (fun e=>by rw [e] at hh; cases hh) x hx)⟩
    ·rw [hh] at hx; cases hx;exact ⟨k,hk,Jq,F0 ka kb,kb⟩
    ·simp at hx; rw [← hx]; exact hs.2.2.2.2
   ·rw [F3 (by grind),List.nil_append]
    refine ⟨X,rfl,h1,fun h=>absurd h ha,fun _ x hx=>?_,h4⟩
    by_cases iX:aq m b=0
    ·have:=J (by grind)
     rw [this] at hx; cases hx; exact iX
    ·exact h3 (by grind) x hx
theorem ZY {S:Q3→Prop} {m:Q3} {P:List Q2} (hS:S m) (hm:mB m) (h:∀ e∈ba P,mD S e):∀ e∈ba (dc m P),mD S e:=by
 cases P with
 | nil=>intro e he; cases he
 | cons p P =>
  obtain ⟨X,hX,h1,J,h3,h4⟩:=VT hS hm p (P++[p]) p (by rw [← List.cons_append,List.getLast?_append]; rfl) h
  have hc:dc m (p::P)=(b9 (p::(P++[p]))).flatMap (m9 m):=rfl;rw [← hc] at hX;by_cases hp:0≤aq m p
  ·rw [F1 hp] at hX;have hh:=J hp;intro e he;cases hC:dc m (p::P) with
   | nil=>rw [hC] at he; cases he
   | cons c C =>
    rw [hC] at hX he;have:c=p:=by rw [← hX] at hh; simpa using hh
    rw [this] at hX he;rw [v7,hX] at he;exact h1 e he
  ·rw [F2 (by grind),List.append_nil] at hX
   intro e he;cases hC:dc m (p::P) with
   | nil=>rw [hC] at he; cases he
   | cons c C =>
    rw [hC] at he hX;subst hX;rcases List.eq_nil_or_concat C with rfl | ⟨C,d,rfl⟩
    ·have n9:=h3 (by grind) c rfl
     rw [v7] at he;rcases List.mem_cons.1 he with rfl | he
     ·exact ⟨m,hS,hm,n9,n9⟩
     ·cases he
    ·have n9:=h3 (by grind) c rfl
     have fu:=h4 (by grind) d (by rw [List.concat_eq_append,← List.cons_append,List.getLast?_append]; rfl)
     rw [List.concat_eq_append] at he h1;rw [v7,show c::(C++[d])++[c]=(c::C)++d::[c] by simp,tK] at he
     rcases List.mem_append.1 he with he | he
     ·exact h1 e (by rw [← List.cons_append]; exact he)
     ·rcases List.mem_cons.1 he with rfl | he
      ·exact ⟨m,hS,hm,fu,n9⟩
      ·cases he
theorem qb0 {k:Nat} (h:1≤k):QB 0 k:=(yU (n:=0) (by decide)).mono h
theorem qb1 {k:Nat} (h:1≤k):QB 1 k:=(yU (n:=1) (by decide)).mono h
open Go
def ai (L:List Q2):List PV:=L.map cB
def bP (L:List Q2):Nat→List Value:=di (ai L)
theorem Bd (L:List Q2):(ai L).length=L.length:=List.length_map ..
theorem ZZ {L:List Q2} {k:Nat} (h:k < L.length):(ai L)[k]?=some (cB (aw L k)):=by
 unfold ai;rw [List.getElem?_map,g7 h]; rfl
theorem VU {L:List Q2} {k:Nat} (h:k < L.length):bP L k=(cB (aw L k)).cells:=by
 unfold bP di;rw [List.getD_eq_getElem?_getD,ZZ h]; rfl
theorem g9 {L:List Q2} {m k:Nat} (h:k < L.length) (hs:∀ v∈L,Q2.sz m v):∃ u:PV,u=cB (aw L k)∧bP L k=u.cells∧u.p=aw L k∧u.sz m∧Q2.sz m u.p :=
 ⟨_,rfl,VU h,ia _,ur (hs _ (eK h)) (Nat.le_refl _),by rw [ia]; exact hs _ (eK h)⟩
theorem W5 {a b:Q2} (h:cB a=cB b):a=b:=by rw [← ia a,← ia b,h]
theorem W6 {u v:PV} {a b:Q2} (hu:u=cB a) (hv:v=cB b):u=v↔a=b:=by
 subst hu; subst hv;exact ⟨W5,fun h=>by rw [h]⟩
theorem ld {k n:Nat} (hk:k < n) (hn:n≤1099511627776):Int.tmod (IntKind.i64.wrap ((k:Int)+1)) (n:Int)=(aY n k:Int):=by
 rw [ay (by omega) (by omega)]
 show Int.tmod ((k+1:Nat):Int) (n:Int)=(((k+1) % n:Nat):Int)
 rfl
theorem CS {k n:Nat} (hk:k < n) (hn:n≤1099511627776):Int.tmod (IntKind.i64.wrap (IntKind.i64.wrap ((k:Int)+(n:Int)) - 1)) (n:Int)=(dz n k:Int):=by
 rw [ay (x:=(k:Int)+n) (by omega) (by omega),ay (by omega) (by omega)]
 have:(k:Int)+n - 1=((k+n - 1:Nat):Int):=by omega
 rw [this]
 rfl
theorem EE {X Y:List Q2} {r s:Nat} (h:X[r]?=Y[s]?):bP X r=bP Y s:=by
 unfold bP di ai;rw [List.getD_eq_getElem?_getD,List.getD_eq_getElem?_getD,List.getElem?_map,List.getElem?_map,h]
theorem VV {L:List Q2} {m a:Nat} {z:Nat→List Value} (ha:a=L.length - m) (hm:m≤L.length):∀ r,r < L.length →
  iA (fun j=>iA z 0 (fun j=>bP L (e9 (0+m) j)) (e9 0 j)) (0+a) (fun j=>bP L (e9 0 j)) r=bP (L.drop m++L.take m) r:=fun r hr=>by
 by_cases h:r < a
 ·rw [ja (by omega),gm (Nat.zero_le _)]
  refine EE ?_;rw [List.getElem?_append_left (by rw [List.length_drop]; omega),List.getElem?_drop]
  simp [aB]
 ·rw [gm (by omega)]
  refine EE ?_;rw [List.getElem?_append_right (by rw [List.length_drop]; omega),List.length_drop,List.getElem?_take_of_lt (by omega)]
  simp [aB,ha]
theorem UE {G:Nat→List Value} {L:List Q2} {m a:Nat} {z:Nat→List Value} (hG:∀ r,r < L.length→G r=bP L r) (ha:a=L.length - m) (hm:m≤L.length):∀ r,r < L.length →
  iA (fun j=>iA z 0 (fun j=>G (e9 (0+m) j)) (e9 0 j)) (0+a) (fun j=>G (e9 0 j)) r=bP (L.drop m++L.take m) r:=fun r hr=>by
 rw [← VV (z:=z) ha hm r hr];by_cases h:r < a
 ·rw [ja (show r < 0+a by omega),ja (show r < 0+a by omega),gm (Nat.zero_le _),gm (Nat.zero_le _)]
  have e:e9 (0+m) (e9 0 r - 0)=m+r:=by rw [aB,aB]; omega
  rw [e];exact hG _ (by omega)
 ·rw [gm (show 0+a≤r by omega),gm (show 0+a≤r by omega)]
  have e:e9 0 (r - (0+a))=r - a:=by rw [aB]; omega
  rw [e];exact hG _ (by omega)
def XV.p (b:XV):Q4:=(b.1.p,b.2.p)
abbrev LL:=Option (List R3 × Nat)
def Z0 (l:List R3):Nat→List Value:=fun r=>(l.getD r zk).cells
def LL.val:LL→Value
 | none=>.slice none 0 0
 | some i=>.slice (some ⟨0,0,none⟩) i.1.length i.2
def LL.ae:LL→List aj
 | none=>[]
 | some i=>[.flat false i.1.length 9 (Z0 i.1)]
def LL.list:LL→List R3
 | none=>[]
 | some i=>i.1
def qs (l:List R3):List Q3:=l.map R3.q
instance (b:Q4):Decidable (okB b):=inferInstanceAs (Decidable (_∧_))
def adY (l:List Q3):Bool:=l.any fun m=>decide (¬ mB m)
theorem rM {O:List Q2} {q:Nat} {F f:Nat→List Value} {p:PV} {x:Q2} (hq:q=O.length) (hF:∀ r,r < q→F r=bP O r) (hp:p=cB x) (hf:f 0=p.cells):∀ r,r < q+1→iA F q f r=bP (O++[x]) r:=fun r hr=>by
 by_cases h:r < q
 ·rw [ja h,hF r h];exact EE (by rw [List.getElem?_append_left (by omega)])
 ·rw [gm (by omega),show r - q=0 by omega,hf,hp]
  have:r=O.length:=by omega
  subst this;unfold bP di ai;rw [List.getD_eq_getElem?_getD,List.getElem?_map];simp
theorem wF {f:Nat→List Value} {p:PV} {x:Q2} (hp:p=cB x) (hf:f 0=p.cells):∀ r,r < 1→f r=bP [x] r:=fun r hr=>by
 have:r=0:=by omega
 subst this;rw [hf,hp]; rfl
theorem Mc {α β:Type} {l:List α} {f:α→List β} {j:Nat} {e:α} (h:l[j]?=some e):(l.take (j+1)).flatMap f=(l.take j).flatMap f++f e:=by
 rw [List.take_add_one,h];simp
theorem VW (m:Q3) (e:Q2 × Q2):(m9 m e).length≤2:=by
 unfold m9 l9 gF;rw [List.length_append]
 split <;> split <;> simp
theorem Fv (m:Q3):∀ l:List (Q2 × Q2),(l.flatMap (m9 m)).length≤2*l.length
 | []=>by simp
 | e::l=>by
  have:=Fv m l;have:=VW m e;rw [List.flatMap_cons,List.length_append,List.length_cons];omega
theorem VX (m:Q3) (l:List Q2):(dc m l).length≤2*l.length:=by
 rw [NI];have:=Fv m (ba l);rw [mK] at this;exact this
open Go
def nJ {α:Type} (f:α→Bool) (l:List α) (i:Nat):Prop:=(l.take i).any f=false
theorem Et {α:Type} (f:α→Bool) (l:List α):nJ f l 0:=rfl
theorem tH {α:Type} {f:α→Bool} {l:List α} {i:Nat} {x:α} (h:nJ f l i) (hx:l[i]?=some x) (hf:f x=false):nJ f l (i+1):=by
 unfold nJ at *;rw [List.take_add_one,hx,List.any_append,h];simp [hf]
theorem EY {α:Type} {f:α→Bool} {l:List α} (h:nJ f l l.length):l.any f=false:=by
 unfold nJ at h;rw [List.take_length] at h;exact h
open Go
theorem Tr {p q:Q2}:fC q p=0↔fC p q=0:=by rw [oE,oE]; exact eq_comm
open Go
structure aen (b:Q4) (l:List Q3):Prop where
 okb:okB b
 aex:adY l=false
 few:l.length≤60
 eh:bD (Hz b l)
 flat:¬ Flat (Hz b l)
 ring:Ring (fx (Hz b l))
theorem MV {P:List Q2} (h:Ring P):bD (eV P)∧(eV P).Nodup∧3≤(eV P).length:=⟨Ft h.eh,EX h.nodup,by rw [A4]; exact h.three⟩
theorem wR {l:List Q2} (h:l.Nodup) {i j:Nat} (hi:i < l.length) (hj:j < l.length) (e:aw l i=aw l j):i=j:=by
 have h1:=g7 hi;have J:=g7 hj;rw [e] at h1;exact (List.getElem?_inj hi h).1 (h1.trans J.symm)
def PM (L:List Q2) (p:Q2):Prop:=∀ k,k < L.length→0≤ao (aw L k) (aw L (aY L.length k)) p
theorem VY (f:Q3):∀ L:List Q2,L≠[]→∃ v∈L,∀ u∈L,aq f v≤aq f u:=by
 intro L
 induction L with
 | nil=>intro h; exact absurd rfl h
 | cons a L ih =>
  intro _;cases L with
  | nil=>exact ⟨a,List.mem_cons_self ..,fun u hu=>by rw [List.mem_singleton.1 hu]; exact Rat.le_refl⟩
  | cons c L =>
   obtain ⟨v,hv,h⟩:=ih (by simp)
   by_cases hle:aq f a≤aq f v
   ·refine ⟨a,List.mem_cons_self ..,fun u hu=>?_⟩
    rcases List.mem_cons.1 hu with rfl | hu
    ·exact Rat.le_refl
    ·exact Rat.le_trans hle (h u hu)
   ·refine ⟨v,List.mem_cons_of_mem _ hv,fun u hu=>?_⟩
    rcases List.mem_cons.1 hu with rfl | hu
    ·grind
    ·exact h u hu
theorem adZ (f:Q3) (u v w p:Q2):ao u v w*(aq f p - aq f v)=ao u v p*(aq f w - aq f v)+ao v w p*(aq f u - aq f v):=by
 simp only [dX,gd]; grind
theorem So {L:List Q2} {p:Q2} (h:Ring L) (hp:PM L p):cM L p:=fun f hf=>by
 obtain ⟨v,hv,zC⟩:=VY f L (fun e=>by have:=h.three; rw [e] at this; exact absurd this (by decide))
 obtain ⟨k,hk,rfl⟩:=pV hv;have hc:=h.rW k hk;have h1:=hp (dz L.length k) (jf hk);rw [B0 hk] at h1;have J:=hp k hk;have e:=adZ f (aw L (dz L.length k)) (aw L k) (aw L (aY L.length k)) p;have h3:=zC _ (eK (cO hk));have h4:=zC _ (eK (jf hk));have h5:=Rat.mul_nonneg h1 (show 0≤aq f (aw L (aY L.length k)) - aq f (aw L k) by grind)
 have h6:=Rat.mul_nonneg J (show 0≤aq f (aw L (dz L.length k)) - aq f (aw L k) by grind)
 have h7:0≤aq f p - aq f (aw L k):=by
  rcases Rat.le_total (a:=0) (b:=aq f p - aq f (aw L k)) with h | h
  ·exact h
  ·have h8:=Rat.mul_nonneg (Rat.le_of_lt hc) (show 0≤-(aq f p - aq f (aw L k)) by grind)
   have h9:ao (aw L (dz L.length k)) (aw L k) (aw L (aY L.length k))*(aq f p - aq f (aw L k))=0:=by grind
   rcases Rat.mul_eq_zero.1 h9 with h | h <;> grind
 have:=hf _ hv;grind
theorem Sp {P:List Q2} (h:Ring P) {u v w:Q2} (h1:(u,v)∈ba P) (J:(v,w)∈ba P):0 < ao u v w:=by
 obtain ⟨i,hi,e1⟩:=BI h1;obtain ⟨j,hj,e2⟩:=BI J;have a1:u=aw P i:=congrArg Prod.fst e1;have a2:v=aw P (aY P.length i):=congrArg Prod.snd e1;have b1:v=aw P j:=congrArg Prod.fst e2;have b2:w=aw P (aY P.length j):=congrArg Prod.snd e2;have e:=wR h.nodup (cO hi) hj (a2.symm.trans b1);subst e;have:=h.rW _ hj;rw [B5 hi] at this;rw [a1,a2,b2]; exact this
theorem UF {P:List Q2} (h:Ring P):Ring (eV P):=by
 obtain ⟨h1,_,h3⟩:=MV h;have hm:∀ e,e∈ba (eV P)→e∈ba P:=fun e he=>by
  have:=yn he
  rwa [List.take_append_drop] at this
 exact ⟨h1,h3,fun k hk=>Sp h (hm _ (rL hk)) (hm _ (kS hk))⟩
theorem Sq {P:List Q2} (h:Ring P) {k:Nat} (hk:k < P.length):0 < ao (aw P k) (aw P (aY P.length k)) (aw P (aY P.length (aY P.length k))):=by
 have:=h.rW _ (cO hk)
 rwa [B5 hk] at this
theorem Sr {P:List Q2} (h:Ring P) {k:Nat} (hk:k < (eV P).length) (h0:0 < k):0 < fC (aw (eV P) k) (aw (eV P) 0):=by
 obtain ⟨_,hn,h3⟩:=MV h;obtain ⟨a,A,e,hle⟩:=Fu (l:=P) (fun e=>by have:=h.three; rw [e] at this; exact absurd this (by decide))
 have ea:aw (eV P) 0=a:=by rw [e]; rfl
 have h1:=uf.1 (hle _ (tY.1 (eK hk)));rw [← ea] at h1;have J:fC (aw (eV P) k) (aw (eV P) 0)≠0:=fun e=>by
  have:=wR hn hk (by omega) (oE.1 e)
  omega
 omega
instance (L:List Q2) (p:Q2):Decidable (PM L p):=inferInstanceAs (Decidable (∀ k,k < L.length→_))
open Go
theorem NJ {o:Bool} (p:PV):ar (.flat false 1 6 (fun _=>p.cells)) (.aS o 6 [p.cells]) :=
 ⟨(fun h=>by cases h),rfl,Nat.le_refl _,fun r hr=>by
  have:r=0:=by have:r < 1:=hr; omega
  subst this; rfl,fun r hr v hv=>dC (show mh p.cells=true from rfl) v hv⟩
def QP (m:Q3) (p:Q2):Prop:=mB m∧0≤aq m p
instance (m:Q3) (p:Q2):Decidable (QP m p):=inferInstanceAs (Decidable (_∧_))
def acj (b:Q4) (l:List Q3) (p:Q2):Prop:=PK b p∧∀ m∈l,QP m p
instance (b:Q4) (p:Q2):Decidable (PK b p):=inferInstanceAs (Decidable (_∧_∧_∧_))
instance (b:Q4) (l:List Q3) (p:Q2):Decidable (acj b l p):=inferInstanceAs (Decidable (_∧_))
theorem Z1 {k n:Nat} (hk:k < n) (hn:n≤1099511627776):Int.tmod (IntKind.i64.wrap ((k:Int)+2)) (n:Int)=(aY n (aY n k):Int):=by
 rw [ay (by omega) (by omega)]
 show Int.tmod ((k+2:Nat):Int) (n:Int)=(((k+1) % n+1) % n:Nat)
 rw [Nat.mod_add_mod]
 rfl
open Go
def aV (L:List PV):List Q2:=L.map PV.p
def iY (L:List PV) (k:Nat):PV:=L.getD k (dj,dj)
theorem F4 {L:List PV} {k:Nat} (h:k < L.length):L[k]?=some (iY L k):=by
 unfold iY; rw [List.getD_eq_getElem?_getD,List.getElem?_eq_getElem h]; rfl
theorem oI {L:List PV} {k:Nat} (h:k < L.length):iY L k∈L:=List.mem_of_getElem? (F4 h)
theorem rI {L:List PV} {k:Nat} (h:k < L.length):di L k=(iY L k).cells:=by
 unfold di;rw [List.getD_eq_getElem?_getD,F4 h]; rfl
theorem j4 {L:List PV} {k:Nat} (h:k < L.length):(iY L k).p=aw (aV L) k:=by
 refine (rV ?_).symm;unfold aV;rw [List.getElem?_map,F4 h]; rfl
theorem EF {α β:Type} {f:α→List β} {c:Nat} (h:∀ a,(f a).length≤c):∀ l:List α,(l.flatMap f).length≤c*l.length
 | []=>by simp
 | e::l=>by
  have:=EF h l;have:=h e;rw [List.flatMap_cons,List.length_append,List.length_cons,Nat.mul_add];omega
theorem VZ {l:List Q2} {i:Nat} {a b c:Q2} {z:Int} (ha:a=aw l (dz l.length i)) (hb:b=aw l i) (hc:c=aw l (aY l.length i)) (hz:z=a8 (ao a b c) 0):nN l i=if z≠0 then [b] else []:=by
 unfold nN;rw [← ha,← hb,← hc,hz];by_cases h:ao a b c=0
 ·rw [if_neg (fun e=>e h),if_neg (fun e=>e (Gy h))]
 ·rw [if_pos h,if_pos (fun e=>h (ym.1 e))]
theorem cY (L:List PV):(aV L).length=L.length:=List.length_map ..
theorem wS {L:List PV} {k:Nat} (h:∀ v∈L,v.sz k) (hk:1≤k):∀ v∈aV L,Q2.sz k v:=fun v hv=>by
 obtain ⟨p,hp,rfl⟩:=List.mem_map.1 hv;exact PV.dy (h p hp) hk
theorem W7 (L:List Q2) (j:Nat):(((ba L).take j).flatMap m5).length≤L.length:=by
 refine Nat.le_trans (EF (c:=1) (fun e=>by unfold m5; split <;> simp) _) ?_
 rw [List.length_take,mK]; omega
theorem W8 (L:List Q2) (j:Nat):((List.range j).flatMap (nN L)).length≤j:=by
 refine Nat.le_trans (EF (c:=1) (fun e=>by unfold nN; split <;> simp) _) ?_
 rw [List.length_range]; omega
end Go.Ae
