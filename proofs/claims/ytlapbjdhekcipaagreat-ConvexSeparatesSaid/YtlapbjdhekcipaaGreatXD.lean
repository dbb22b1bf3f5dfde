import Derived.Laws.Strings
import Derived.Test.YtlapbjdhekcipaaGreatXC
set_option linter.unusedVariables false
set_option linter.unusedSimpArgs false
namespace Go.Ae
open Go
theorem VZ (x:Int):IntKind.i64.wrap x=if x % 18446744073709551616 ≥ 9223372036854775808 then x % 18446744073709551616 - 18446744073709551616 else x % 18446744073709551616:=by
 have:IntKind.i64.wrap x=if (true && decide (x % (2 ^ 64:Int) ≥ (2 ^ 63:Int)))=true then x % (2 ^ 64:Int) - (2 ^ 64:Int) else x % (2 ^ 64:Int):=rfl
 rw [this];simp
theorem ax {x:Int} (h:-9223372036854775808≤x) (J:x < 9223372036854775808):IntKind.i64.wrap x=x:=by
 rw [VZ]
 split <;> omega
theorem BU (x:Int):IntKind.u64.wrap x=x % 18446744073709551616:=by
 unfold IntKind.wrap;simp [IntKind.bits,IntKind.signed]
theorem bL {x:Int} (h:0≤x) (J:x < 18446744073709551616):IntKind.u64.wrap x=x:=by rw [BU]; omega
theorem wN (x:Int):IntKind.u32.wrap x=x % 4294967296:=by
 unfold IntKind.wrap;simp [IntKind.bits,IntKind.signed]
theorem di {x:Int} (h:0≤x) (J:x < 4294967296):IntKind.u32.wrap x=x:=by rw [wN]; omega
theorem lI (x:Int):IntKind.u8.wrap x=x % 256:=by
 unfold IntKind.wrap;simp [IntKind.bits,IntKind.signed]
theorem dE {x:Int} (h:0≤x) (J:x < 256):IntKind.u8.wrap x=x:=by rw [lI]; omega
abbrev B:Nat:=4294967296
theorem eh (n:Nat):0 < B ^ n:=Nat.pow_pos (by decide)
def ao (N i:Nat):Nat:=N / B ^ i % B
theorem cK (N i:Nat):ao N i < B:=Nat.mod_lt _ (by decide)
def cH (Y j d:Nat):Nat:=Y % B ^ j+B ^ j*(d+B*(Y / B ^ (j+1)))
theorem FE (Y j:Nat):Y=Y % B ^ j+B ^ j*(ao Y j+B*(Y / B ^ (j+1))):=by
 have h1:=Nat.mod_add_div Y (B ^ j);have J:=Nat.mod_add_div (Y / B ^ j) B;rw [Nat.div_div_eq_div_mul,← Nat.pow_succ] at J;unfold ao;rw [J,h1]
theorem p6 (Y j d:Nat):cH Y j d+ao Y j*B ^ j=Y+d*B ^ j:=by
 have h:=FE Y j;unfold cH;rw [Nat.mul_add] at h ⊢;have e1:B ^ j*ao Y j=ao Y j*B ^ j:=Nat.mul_comm _ _;have e2:B ^ j*d=d*B ^ j:=Nat.mul_comm _ _;omega
theorem oX {a k Q:Nat} (h:a < k):(a+k*Q) / k=Q:=by
 have hk:0 < k:=by omega
 rw [Nat.add_mul_div_left _ _ hk,Nat.div_eq_of_lt h,Nat.zero_add]
theorem F6 {Y j d:Nat} (hd:d < B) (r:Nat):ao (cH Y j d) r=if r=j then d else ao Y r:=by
 have ha:Y % B ^ j < B ^ j:=Nat.mod_lt _ (eh j);rcases Nat.lt_trichotomy r j with h | h | h
 ·rw [if_neg (by omega)]
  have key:∀ K,ao (Y % B ^ j+B ^ j*K) r=ao (Y % B ^ j) r:=by
   intro K;unfold ao;have e:B ^ j*K=B ^ r*(B*(B ^ (j - r - 1)*K)):=by
    rw [← Nat.mul_assoc,← Nat.mul_assoc,← Nat.pow_succ,← Nat.pow_add,show r+1+(j - r - 1)=j by omega]
   rw [e,Nat.add_mul_div_left _ _ (eh r),Nat.add_mul_mod_self_left]
  have h1:=key (d+B*(Y / B ^ (j+1)));have J:=key (ao Y j+B*(Y / B ^ (j+1)));rw [← FE Y j] at J;unfold cH;rw [h1,J]
 ·subst h;rw [if_pos rfl];unfold cH ao;rw [oX ha,Nat.add_mul_mod_self_left,Nat.mod_eq_of_lt hd]
 ·rw [if_neg (by omega)]
  have key:∀ d',d' < B→ao (Y % B ^ j+B ^ j*(d'+B*(Y / B ^ (j+1)))) r=Y / B ^ (j+1) / B ^ (r - j - 1) % B:=by
   intro d' cX;unfold ao;have e:B ^ r=B ^ j*(B*B ^ (r - j - 1)):=by
    rw [← Nat.mul_assoc,← Nat.pow_succ,← Nat.pow_add,show j+1+(r - j - 1)=r by omega]
   rw [e,← Nat.div_div_eq_div_mul,oX ha,← Nat.div_div_eq_div_mul,oX cX]
  have h1:=key d hd;have J:=key (ao Y j) (cK Y j);rw [← FE Y j] at J;unfold cH;rw [h1,J]
def bo (N:Nat):Nat→List Value:=fun r=>[.int .u32 (ao N r)]
theorem fE {Y j d:Nat} (hd:d < B):(fun r=>if r=j then [Value.int .u32 d] else bo Y r)=bo (cH Y j d):=by
 funext r
 unfold bo;rw [F6 hd]
 split <;> rfl
theorem FF (r:Nat):ao 0 r=0:=by simp [ao]
theorem tN:(fun _=>[Value.int .u32 0])=bo 0:=by
 funext r
 simp [bo,FF]
theorem uf {N n:Nat} (h:N < B ^ n) {r:Nat} (hr:n≤r):ao N r=0:=by
 unfold ao;have:B ^ n≤B ^ r:=Nat.pow_le_pow_right (by decide) hr
 rw [Nat.div_eq_of_lt (by omega)]; rfl
theorem mod_succ (N i:Nat):N % B ^ (i+1)=N % B ^ i+ao N i*B ^ i:=by
 unfold ao;rw [Nat.pow_succ,Nat.mod_mul];rw [Nat.mul_comm (B ^ i)]
theorem qf (N i:Nat):N / B ^ i=ao N i+B*(N / B ^ (i+1)):=by
 have J:=Nat.mod_add_div (N / B ^ i) B;rw [Nat.div_div_eq_div_mul,← Nat.pow_succ] at J;exact J.symm
def nl (N:Nat):Nat:=if h:N=0 then 0 else nl (N / B)+1
decreasing_by exact Nat.div_lt_self (by omega) (by decide)
theorem r4:nl 0=0:=by rw [nl]; rfl
theorem GB {N:Nat} (h:N≠0):nl N=nl (N / B)+1:=by rw [nl]; simp [h]
theorem b6 (N:Nat):N < B ^ nl N:=by
 induction N using Nat.strongRecOn with
 | _ N ih =>
  by_cases h:N=0
  ·subst h; rw [r4]; decide
  ·have:=ih (N / B) (Nat.div_lt_self (by omega) (by decide))
   rw [GB h,Nat.pow_succ];exact (Nat.div_lt_iff_lt_mul (by decide)).1 this
theorem jN {N n:Nat} (h:N < B ^ n):nl N≤n:=by
 induction n generalizing N with
 | zero =>
  have:N=0:=by simpa using h
  subst this; rw [r4]; exact Nat.le_refl _
 | succ n ih =>
  by_cases h0:N=0
  ·subst h0; rw [r4]; omega
  ·have:N / B < B ^ n:=(Nat.div_lt_iff_lt_mul (by decide)).2 (by rw [← Nat.pow_succ]; exact h)
   rw [GB h0];have:=ih this;omega
theorem y6 {N:Nat} (h:N≠0):0 < nl N:=by rw [GB h]; omega
theorem Lt {N:Nat} (h:nl N=0):N=0:=by
 by_cases h0:N=0
 ·exact h0
 ·have:=y6 h0; omega
theorem Sl {N:Nat} (h:N≠0):B ^ (nl N - 1)≤N:=by
 rcases Nat.lt_or_ge N (B ^ (nl N - 1)) with h1 | h1
 ·have:=jN h1;have:=y6 h;omega
 ·exact h1
theorem Pn {N n:Nat} (h:N < B ^ n) (J:n=0∨ao N (n - 1)≠0):nl N=n:=by
 rcases J with rfl | J
 ·have:=jN h; omega
 ·have h3:=jN h;rcases Nat.lt_or_ge (nl N) n with h4 | h4
  ·exact absurd (uf (b6 N) (show nl N≤n - 1 by omega)) J
  ·omega
theorem lJ {M N:Nat} (h:M≤N):nl M≤nl N:=jN (Nat.lt_of_le_of_lt h (b6 N))
theorem KW {M N:Nat} (h:nl M < nl N):M < N:=by
 rcases Nat.lt_or_ge M N with h1 | h1
 ·exact h1
 ·have:=lJ h1; omega
theorem V0 {N:Nat} (h:N≠0):ao N (nl N - 1)≠0:=by
 intro h0;have h1:=b6 N;have J:=y6 h;have e:nl N=nl N - 1+1:=by omega
 have h3:=mod_succ N (nl N - 1);rw [← e,h0,Nat.mod_eq_of_lt h1] at h3;have h4:=Nat.mod_lt N (eh (nl N - 1));have:=jN (show N < B ^ (nl N - 1) by omega)
 omega
open Go
abbrev C:Nat:=256
theorem gX (n:Nat):0 < C ^ n:=Nat.pow_pos (by decide)
def dr (l:List UInt8):Nat:=l.foldl (fun a b=>a*C+b.toNat) 0
theorem Ml (l:List UInt8):∀ a,l.foldl (fun a b=>a*C+b.toNat) a=a*C ^ l.length+dr l:=by
 induction l with
 | nil=>intro a; simp [dr]
 | cons b l ih =>
  intro a;simp only [List.foldl_cons,dr];rw [ih,ih (0*C+b.toNat)];rw [List.length_cons,Nat.pow_succ,Nat.add_mul,Nat.zero_mul,Nat.zero_add,Nat.mul_assoc,Nat.mul_comm C,Nat.add_assoc]
theorem rS (b:UInt8) (l:List UInt8):dr (b::l)=b.toNat*C ^ l.length+dr l:=by
 have:=Ml l (0*C+b.toNat);rw [Nat.zero_mul,Nat.zero_add] at this
 simpa [dr] using this
theorem Bi (l m:List UInt8):dr (l++m)=dr l*C ^ m.length+dr m:=by
 unfold dr;rw [List.foldl_append,Ml]
 rfl
theorem HL (b:UInt8):b.toNat < C:=b.toNat_lt
theorem r6 (l:List UInt8):dr l < C ^ l.length:=by
 induction l with
 | nil=>decide
 | cons b l ih =>
  rw [rS,List.length_cons,Nat.pow_succ];have:=HL b;have J:(b.toNat+1)*C ^ l.length≤C*C ^ l.length:=Nat.mul_le_mul_right _ this;rw [Nat.add_mul] at J;rw [Nat.mul_comm (C ^ l.length)];omega
theorem V1 {l:List UInt8} {i:Nat} (h:i < l.length):l[i].toNat=dr l / C ^ (l.length - 1 - i) % C:=by
 induction l generalizing i with
 | nil=>simp at h
 | cons b l ih =>
  cases i with
  | zero =>
   simp only [List.getElem_cons_zero,List.length_cons,Nat.add_sub_cancel,Nat.sub_zero];rw [rS,Nat.mul_comm,Nat.mul_add_div (gX _),Nat.div_eq_of_lt (r6 l),Nat.add_zero,Nat.mod_eq_of_lt (HL b)]
  | succ i =>
   have hi:i < l.length:=by simpa using h
   simp only [List.getElem_cons_succ,List.length_cons,Nat.add_sub_cancel];rw [ih hi,rS];have e:C ^ l.length=C ^ (l.length - (i+1))*(C*C ^ i):=by
    rw [← Nat.mul_assoc,← Nat.pow_succ,← Nat.pow_add,show l.length - (i+1)+1+i=l.length by omega]
   rw [show l.length - 1 - i=l.length - (i+1) by omega,e]
   rw [show b.toNat*(C ^ (l.length - (i+1))*(C*C ^ i))=C ^ (l.length - (i+1))*(C*(C ^ i*b.toNat)) by
    rw [Nat.mul_comm,Nat.mul_assoc,Nat.mul_assoc]]
   rw [Nat.mul_add_div (gX _),Nat.mul_add_mod]
def ab (s:ByteArray):Nat:=dr s.data.toList
theorem size_eq (s:ByteArray):s.data.toList.length=s.size:=rfl
theorem gq (s:ByteArray):ab s < C ^ s.size:=r6 _
theorem tY {s:ByteArray} {i:Nat} (h:i < s.size):b8 s i=ab s / C ^ (s.size - 1 - i) % C:=by
 have h':i < s.data.toList.length:=h;have:=V1 h';unfold b8 ab;rw [List.getD_eq_getElem?_getD,List.getElem?_eq_getElem h',Option.getD_some,this]
 rfl
theorem wD (s:ByteArray) (i:Nat):b8 s i < C:=HL _
theorem G7 {s t:ByteArray} (h:s.data.toList=t.data.toList):s=t:=by
 cases s; cases t; congr; exact Array.ext' h
theorem V2 {l m:List UInt8} (h:l.length=m.length) (J:dr l=dr m):l=m:=by
 induction l generalizing m with
 | nil=>cases m with
  | nil=>rfl
  | cons=>simp at h
 | cons a l ih=>cases m with
  | nil=>simp at h
  | cons b m =>
   simp only [List.length_cons,Nat.add_right_cancel_iff] at h;rw [rS,rS,h] at J;have h3:=r6 l;have h4:=r6 m;rw [h] at h3;have ha:a.toNat=b.toNat:=by
    have e1:(a.toNat*C ^ m.length+dr l) / C ^ m.length=a.toNat:=by
     rw [Nat.mul_comm,Nat.mul_add_div (gX _),Nat.div_eq_of_lt h3,Nat.add_zero]
    have e2:(b.toNat*C ^ m.length+dr m) / C ^ m.length=b.toNat:=by
     rw [Nat.mul_comm,Nat.mul_add_div (gX _),Nat.div_eq_of_lt h4,Nat.add_zero]
    rw [← e1,← e2,J]
   rw [ha] at J;rw [UInt8.toNat_inj.1 ha,ih h (by omega)]
theorem V3 {s t:ByteArray} (h:s.size=t.size) (J:ab s=ab t):s=t:=G7 (V2 h J)
def pU:Nat→Nat→List UInt8
 | 0,_=>[]
 | n+1,Y=>pU n (Y / C)++[UInt8.ofNat (Y % C)]
theorem wo:∀ (n Y:Nat),(pU n Y).length=n
 | 0,_=>rfl
 | n+1,Y=>by simp [pU,wo n]
theorem ofNat_mod (x:Nat):(UInt8.ofNat (x % C)).toNat=x % C:=by
 have:x % C < 256:=Nat.mod_lt _ (by decide)
 simp [UInt8.toNat_ofNat,Nat.mod_eq_of_lt this]
theorem M1:∀ (n Y:Nat),dr (pU n Y)=Y % C ^ n
 | 0,Y=>by simp [pU,dr,Nat.mod_one]
 | n+1,Y=>by
  rw [pU,Bi,M1 n,rS];simp only [List.length_cons,List.length_nil,Nat.zero_add,Nat.pow_zero,Nat.mul_one,Nat.pow_one];rw [ofNat_mod,Nat.pow_succ,Nat.mul_comm (C ^ n),Nat.mod_mul];simp only [dr,List.foldl_nil,Nat.add_zero];rw [Nat.mul_comm]; omega
def be (n Y:Nat):ByteArray:=⟨⟨pU n Y⟩⟩
theorem w8 (n Y:Nat):(be n Y).size=n:=wo n Y
theorem GC (n Y:Nat):ab (be n Y)=Y % C ^ n:=M1 n Y
def aQ (N:Nat):Nat:=if h:N=0 then 0 else aQ (N / C)+1
decreasing_by exact Nat.div_lt_self (by omega) (by decide)
theorem wO:aQ 0=0:=by rw [aQ]; rfl
theorem F7 {N:Nat} (h:N≠0):aQ N=aQ (N / C)+1:=by rw [aQ]; simp [h]
theorem lN (N:Nat):N < C ^ aQ N:=by
 induction N using Nat.strongRecOn with
 | _ N ih =>
  by_cases h:N=0
  ·subst h; rw [wO]; decide
  ·have:=ih (N / C) (Nat.div_lt_self (by omega) (by decide))
   rw [F7 h,Nat.pow_succ];exact (Nat.div_lt_iff_lt_mul (by decide)).1 this
theorem gN {N n:Nat} (h:N < C ^ n):aQ N≤n:=by
 induction n generalizing N with
 | zero =>
  have:N=0:=by simpa using h
  subst this; rw [wO]; exact Nat.le_refl _
 | succ n ih =>
  by_cases h0:N=0
  ·subst h0; rw [wO]; omega
  ·have:N / C < C ^ n:=(Nat.div_lt_iff_lt_mul (by decide)).2 (by rw [← Nat.pow_succ]; exact h)
   rw [F7 h0];have:=ih this;omega
theorem GD {N:Nat} (h:N≠0):0 < aQ N:=by rw [F7 h]; omega
theorem SP {N:Nat} (h:aQ N=0):N=0:=by
 by_cases h0:N=0
 ·exact h0
 ·have:=GD h0; omega
theorem iV {M N:Nat} (h:M≤N):aQ M≤aQ N:=gN (Nat.lt_of_le_of_lt h (lN N))
theorem Sn {M N:Nat} (h:aQ M < aQ N):M < N:=by
 rcases Nat.lt_or_ge M N with h1 | h1
 ·exact h1
 ·have:=iV h1; omega
theorem OH {N n:Nat} (h:N < C ^ n) (J:n=0∨C ^ (n - 1)≤N):aQ N=n:=by
 rcases J with rfl | J
 ·have:=gN h; omega
 ·have h3:=gN h;rcases Nat.lt_or_ge (aQ N) n with h4 | h4
  ·have h5:C ^ aQ N≤C ^ (n - 1):=Nat.pow_le_pow_right (by decide) (by omega)
   have:=lN N;omega
  ·omega
theorem Sa {N:Nat} (h:N≠0):C ^ (aQ N - 1)≤N:=by
 rcases Nat.lt_or_ge N (C ^ (aQ N - 1)) with h1 | h1
 ·have:=gN h1;have:=GD h;omega
 ·exact h1
def nb (N:Nat):ByteArray:=be (aQ N) N
theorem gD (N:Nat):(nb N).size=aQ N:=w8 _ _
theorem ik (N:Nat):ab (nb N)=N:=by unfold nb; rw [GC,Nat.mod_eq_of_lt (lN N)]
theorem OI {M N:Nat} (h:nb M=nb N):M=N:=by rw [← ik M,h,ik]
theorem qj:nb 0=⟨#[]⟩:=by unfold nb; rw [wO]; rfl
theorem jm (s:ByteArray):aQ (ab s)≤s.size:=gN (gq s)
theorem acZ {s:ByteArray} (h:s.size=0∨C ^ (s.size - 1)≤ab s):s=nb (ab s):=by
 refine V3 ?_ (ik _).symm;rw [gD,OH (gq s) h]
theorem y7 {s:ByteArray} (h:s.size=0∨b8 s 0≠0):s=nb (ab s):=by
 refine acZ (h.imp_right fun h=>?_)
 by_cases h0:s.size=0
 ·exfalso;apply h;unfold b8;have:s.data.toList=[]:=List.eq_nil_of_length_eq_zero h0;rw [this]; rfl
 ·rw [tY (by omega)] at h
  rcases Nat.lt_or_ge (ab s) (C ^ (s.size - 1)) with h1 | h1
  ·rw [Nat.sub_zero,Nat.div_eq_of_lt h1] at h;exact absurd rfl h
  ·exact h1
theorem SQ (s t:ByteArray):ab (s++t)=ab s*C ^ t.size+ab t:=by
 unfold ab;have:(s++t).data.toList=s.data.toList++t.data.toList:=by simp
 rw [this,Bi]; rfl
theorem KB (s:ByteArray) (l h:Nat):(s.extract l h).data.toList=(s.data.toList.take h).drop l:=by
 simp [ByteArray.data_extract,List.extract,List.drop_take]
theorem EE {s:ByteArray} {l h:Nat} (h1:l≤h) (J:h≤s.size):(s.extract l h).size=h - l:=by
 rw [← size_eq,KB];have:h≤s.data.toList.length:=J;simp; omega
theorem UR (l:List UInt8) (n:Nat) (h:n≤l.length):dr (l.drop n)=dr l % C ^ (l.length - n):=by
 have e:dr l=dr (l.take n)*C ^ (l.drop n).length+dr (l.drop n):=by rw [← Bi,List.take_append_drop]
 have J:=r6 (l.drop n);rw [List.length_drop] at e J;rw [e,Nat.mul_comm,Nat.mul_add_mod,Nat.mod_eq_of_lt J]
theorem US (l:List UInt8) (n:Nat) (h:n≤l.length):dr (l.take n)=dr l / C ^ (l.length - n):=by
 have e:dr l=dr (l.take n)*C ^ (l.drop n).length+dr (l.drop n):=by rw [← Bi,List.take_append_drop]
 have J:=r6 (l.drop n);rw [List.length_drop] at e J;rw [e,Nat.mul_comm,Nat.mul_add_div (gX _),Nat.div_eq_of_lt J,Nat.add_zero]
theorem EJ {s:ByteArray} {l h:Nat} (h1:l≤h) (J:h≤s.size):ab (s.extract l h)=ab s / C ^ (s.size - h) % C ^ (h - l):=by
 unfold ab;have jY:h≤s.data.toList.length:=J;have e:(s.data.toList.take h).length=h:=by rw [List.length_take]; omega
 rw [KB,UR _ _ (by rw [e]; exact h1),US _ _ jY,e]
 rfl
theorem qC (s t:ByteArray):(s.toList == t.toList)=decide (s=t):=by
 rw [ByteArray.toList_eq,ByteArray.toList_eq];by_cases h:s=t
 ·subst h; simp
 ·simp [h];intro J;exact h (G7 (by rw [J]))
theorem FG {s:ByteArray}:s=⟨#[]⟩↔s.size=0:=by
 constructor
 ·intro h; subst h; rfl
 ·intro h;refine G7 ?_;exact List.eq_nil_of_length_eq_zero h
theorem KC {N:Nat}:nb N=⟨#[]⟩↔N=0:=by
 rw [FG,gD];exact ⟨SP,fun h=>by rw [h,wO]⟩
theorem KD:∀ {l m:List UInt8},l.length=m.length→Op.bytesLess l m=decide (dr l < dr m)
 | [],[],_=>by simp [Op.bytesLess,dr]
 | [],_::_,h=>by simp at h
 | _::_,[],h=>by simp at h
 | a::l,b::m,h=>by
  have h:l.length=m.length:=by simpa using h
  have ih:=KD h;unfold Op.bytesLess;rw [ih,rS,rS,h];have h3:=r6 l;have h4:=r6 m;rw [h] at h3;rcases Nat.lt_trichotomy a.toNat b.toNat with dI | dI | dI
  ·have:a < b:=UInt8.lt_iff_toNat_lt.2 dI;have h5:(a.toNat+1)*C ^ m.length≤b.toNat*C ^ m.length:=Nat.mul_le_mul_right _ dI;rw [Nat.add_mul] at h5;have h6:a.toNat*C ^ m.length+dr l < b.toNat*C ^ m.length+dr m:=by omega
   simp [this,h6]
  ·have e:a=b:=UInt8.toNat_inj.1 dI;subst e;simp
  ·have:¬ a < b:=fun h=>by have:=UInt8.lt_iff_toNat_lt.1 h; omega
   have h5:(b.toNat+1)*C ^ m.length≤a.toNat*C ^ m.length:=Nat.mul_le_mul_right _ dI;rw [Nat.add_mul] at h5;have h6:¬ (a.toNat*C ^ m.length+dr l < b.toNat*C ^ m.length+dr m):=by omega
   have h7:¬ a=b:=fun e=>by subst e; omega
   simp [this,h6,h7]
theorem V4 {s t:ByteArray} (h:s.size=t.size):Op.bytesLess s.toList t.toList=decide (ab s < ab t):=by
 rw [ByteArray.toList_eq,ByteArray.toList_eq];exact KD h
open Go
theorem sH (a:Int) (k:Nat):a.fdiv (2 ^ k)=a / 2 ^ k:=Int.fdiv_eq_ediv_of_nonneg _ (Int.le_of_lt (Int.pow_pos (by decide)))
theorem FH (b:BitVec 32):IntKind.u32.wrap (b.toNat:Int)=b.toNat:=di (by omega) (by have:=b.isLt; omega)
theorem V5 {w:Nat} (b:BitVec w):BitVec.ofInt w (b.toNat:Int)=b:=by
 rw [BitVec.ofInt_natCast,BitVec.ofNat_toNat]; simp
theorem Xr (b:BitVec 32):(b.toNat:Int) / 2147483648=if b.msb then 1 else 0:=by
 have h:=b.isLt;rw [BitVec.msb_eq_decide];by_cases h1:2 ^ (32 - 1)≤b.toNat
 ·simp [h1]; omega
 ·simp [h1]; omega
theorem toNat_ofInt32 (x:Nat) (h:x < 4294967296):(BitVec.ofInt 32 (x:Int)).toNat=x:=by
 rw [BitVec.ofInt_natCast,BitVec.toNat_ofNat]; exact Nat.mod_eq_of_lt h
theorem EW (x:Nat) (h:x < 4294967296):(BitVec.ofInt 32 (x:Int)).msb=decide (2147483648≤x):=by
 rw [BitVec.msb_eq_decide,toNat_ofInt32 x h]
theorem Tx (x y c:Nat) (hx:x < 4294967296) (hy:y < 4294967296) (hc:c≤1) (d:Nat) (hd:d=(x+2*4294967296 - y - c) % 4294967296) :
  (((BitVec.ofInt 32 (4294967295:Int) ^^^ BitVec.ofInt 32 (x:Int)) &&& BitVec.ofInt 32 (y:Int)) ||| ((BitVec.ofInt 32 (4294967295:Int) ^^^ (BitVec.ofInt 32 (x:Int) ^^^ BitVec.ofInt 32 (y:Int))) &&& BitVec.ofInt 32 (d:Int))).msb=decide (x < y+c):=by
 have cX:d < 4294967296:=by omega
 have ho:(BitVec.ofInt 32 (4294967295:Int)).msb=true:=by decide
 rw [BitVec.msb_or,BitVec.msb_and,BitVec.msb_and,BitVec.msb_xor,BitVec.msb_xor,BitVec.msb_xor,ho,EW x hx,EW y hy,EW d cX];by_cases h1:2147483648≤x <;> by_cases J:2147483648≤y <;> by_cases h3:2147483648≤d <;> simp [h1,J,h3] <;> omega
theorem Xs (x y:Nat) (hx:x < 4294967296) (hy:y < 4294967296):((BitVec.ofInt 64 ((x:Int)*4294967296) ||| BitVec.ofInt 64 (y:Int)).toNat:Int)=(x*4294967296+y:Nat):=by
 have e1:BitVec.ofInt 64 ((x:Int)*4294967296)=BitVec.ofNat 64 (x*4294967296):=by
  rw [← BitVec.ofInt_natCast]; congr 1
 rw [e1,BitVec.ofInt_natCast,BitVec.toNat_or,BitVec.toNat_ofNat,BitVec.toNat_ofNat,Nat.mod_eq_of_lt (by omega),Nat.mod_eq_of_lt (by omega)]
 have:=Nat.shiftLeft_add_eq_or_of_lt (i:=32) (b:=y) (by simpa using hy) x
 rw [Nat.shiftLeft_eq] at this;have J:(2:Nat) ^ 32=4294967296:=by decide
 rw [J] at this;rw [← this]
theorem dT (a:Int):a.fdiv (2 ^ min (Int.toNat 31) IntKind.u64.bits)=a / 2147483648:=by rw [sH]; rfl
theorem cl (a:Int):a.fdiv (2 ^ min (Int.toNat 32) IntKind.u64.bits)=a / 4294967296:=by rw [sH]; rfl
theorem dn (a:Int):a.fdiv (2 ^ min (Int.toNat 8) IntKind.u32.bits)=a / 256:=by rw [sH]; rfl
theorem dw (a:Int):a.fdiv (2 ^ min (Int.toNat 16) IntKind.u32.bits)=a / 65536:=by rw [sH]; rfl
theorem dC (a:Int):a.fdiv (2 ^ min (Int.toNat 24) IntKind.u32.bits)=a / 16777216:=by rw [sH]; rfl
theorem c7 (a:Int):a.fdiv (2 ^ min (Int.toNat 8) IntKind.i64.bits)=a / 256:=by rw [sH]; rfl
def CL (x y c:Int):Int:=IntKind.u32.wrap (IntKind.u32.wrap (x - y) - c)
def G8 (x y c:Int):Int:=(IntKind.u32.wrap ((BitVec.ofInt 32 (IntKind.u32.wrap ((BitVec.ofInt 32 (IntKind.u32.wrap ((BitVec.ofInt 32 (4294967295:Int) ^^^ BitVec.ofInt 32 x).toNat:Int)) &&& BitVec.ofInt 32 y).toNat:Int)) |||
 BitVec.ofInt 32 (IntKind.u32.wrap ((BitVec.ofInt 32 (IntKind.u32.wrap ((BitVec.ofInt 32 (4294967295:Int) ^^^ BitVec.ofInt 32 (IntKind.u32.wrap ((BitVec.ofInt 32 x ^^^ BitVec.ofInt 32 y).toNat:Int))).toNat:Int)) &&&
  BitVec.ofInt 32 (CL x y c)).toNat:Int))).toNat:Int)).fdiv (2 ^ 31)
theorem Mm {x y c:Nat} (hx:x < 4294967296) (hy:y < 4294967296) (hc:c≤1):CL x y c=((x+2*4294967296 - y - c) % 4294967296:Nat):=by
 unfold CL;rw [wN,wN]; omega
theorem UT {x y c:Nat} (hx:x < 4294967296) (hy:y < 4294967296) (hc:c≤1):G8 x y c=if x < y+c then 1 else 0:=by
 unfold G8;rw [Mm hx hy hc];simp only [FH,V5,sH];rw [show (2:Int) ^ 31=2147483648 by decide,Xr,Tx x y c hx hy hc _ rfl]
 simp
theorem Xt {x k:Nat} (h1:2 ^ k≤x) (J:x < 2 ^ (k+1)):x.log2=k:=by
 have hx:x≠0:=by have:=Nat.pow_pos (n:=k) (show 0 < 2 by decide); omega
 have a1:=(Nat.log2_lt hx).2 J;have a2:=(Nat.le_log2 hx).2 h1;omega
def e9 (x:Nat):Nat:=if x=0 then 0 else x.log2+1
theorem GF (x:Nat):x < 2 ^ e9 x:=by
 unfold e9
 split
 ·omega
 ·rename_i h; exact (Nat.log2_lt h).1 (Nat.lt_succ_self _)
theorem Kk {x:Nat} (h:x≠0):2 ^ (e9 x - 1)≤x:=by
 unfold e9;rw [if_neg h];exact (Nat.le_log2 h).1 (Nat.le_refl _)
theorem Xu {x k:Nat} (h1:x < 2 ^ k) (J:k=0∨2 ^ (k - 1)≤x):e9 x=k:=by
 rcases J with rfl | J
 ·have:x=0:=by simpa using h1
  subst this; rfl
 ·by_cases h0:k=0
  ·subst h0;have:x=0:=by simpa using h1
   subst this; rfl
  ·have hx:x≠0:=by have:=Nat.pow_pos (n:=k - 1) (show 0 < 2 by decide); omega
   unfold e9;rw [if_neg hx,Xt J (by rw [show k - 1+1=k by omega]; exact h1)]
   omega
theorem Bu {x k:Nat} (h:2 ^ k≤x):e9 x=k+e9 (x / 2 ^ k):=by
 have hp:=Nat.pow_pos (n:=k) (show 0 < 2 by decide)
 have hq:x / 2 ^ k≠0:=by have:=Nat.div_pos h hp; omega
 have hb:0 < e9 (x / 2 ^ k):=by unfold e9; rw [if_neg hq]; omega
 refine Xu ?_ (.inr ?_)
 ·have:=GF (x / 2 ^ k);rw [Nat.pow_add,Nat.mul_comm];exact (Nat.div_lt_iff_lt_mul hp).1 this
 ·have:=Kk hq;rw [show k+e9 (x / 2 ^ k) - 1=k+(e9 (x / 2 ^ k) - 1) by omega,Nat.pow_add,Nat.mul_comm]
  exact (Nat.le_div_iff_mul_le hp).1 this
theorem dy (x y:Nat) (hx:x < 4294967296) (hy:y < 4294967296):IntKind.u64.wrap ((BitVec.ofInt IntKind.u64.bits ((x:Int)*4294967296) ||| BitVec.ofInt IntKind.u64.bits (y:Int)).toNat:Int)=(x:Int)*4294967296+y:=by
 have h:=Xs x y hx hy;have:IntKind.u64.wrap ((BitVec.ofInt 64 ((x:Int)*4294967296) ||| BitVec.ofInt 64 (y:Int)).toNat:Int)=(x:Int)*4294967296+y:=by
  rw [h,bL (by omega) (by omega)]; omega
 exact this
theorem Xv (x y:Nat) (hx:x < 36028797018963968) (hy:y < 256):((BitVec.ofInt 64 ((x:Int)*256) ||| BitVec.ofInt 64 (y:Int)).toNat:Int)=(x*256+y:Nat):=by
 have e1:BitVec.ofInt 64 ((x:Int)*256)=BitVec.ofNat 64 (x*256):=by
  rw [← BitVec.ofInt_natCast]; congr 1
 rw [e1,BitVec.ofInt_natCast,BitVec.toNat_or,BitVec.toNat_ofNat,BitVec.toNat_ofNat,Nat.mod_eq_of_lt (by omega),Nat.mod_eq_of_lt (by omega)]
 have:=Nat.shiftLeft_add_eq_or_of_lt (i:=8) (b:=y) (by simpa using hy) x
 rw [Nat.shiftLeft_eq] at this;have J:(2:Nat) ^ 8=256:=by decide
 rw [J] at this;rw [← this]
theorem dK (x y:Nat) (hx:x < 36028797018963968) (hy:y < 256):IntKind.i64.wrap ((BitVec.ofInt IntKind.i64.bits ((x:Int)*256) ||| BitVec.ofInt IntKind.i64.bits (y:Int)).toNat:Int)=(x:Int)*256+y:=by
 have h:=Xv x y hx hy;have:IntKind.i64.wrap ((BitVec.ofInt 64 ((x:Int)*256) ||| BitVec.ofInt 64 (y:Int)).toNat:Int)=(x:Int)*256+y:=by
  rw [h,ax (by omega) (by omega)]; omega
 exact this
theorem toNat_cast (n:Nat):((n:Int)).toNat=n:=Int.toNat_natCast n
theorem Xw {x:Nat} (h:x < 256):e9 x≤8:=by
 unfold e9
 split
 ·omega
 ·rename_i h0; have:=(Nat.log2_lt h0).2 (show x < 2 ^ 8 from h); omega
theorem M3 {x:Nat} (h:x < 4294967296):e9 x≤32:=by
 unfold e9
 split
 ·omega
 ·rename_i h0; have:=(Nat.log2_lt h0).2 (show x < 2 ^ 32 from h); omega
theorem dS (c:Nat):uG c 0=c:=by
 unfold uG;cases h:decide (c=aM) with
 | true=>exact (of_decide_eq_true h).symm
 | false=>rfl
theorem toNat_0:Int.toNat 0=0:=rfl
theorem toNat_1:Int.toNat 1=1:=rfl
theorem G9 (x y k:Nat) (hx:x < 2 ^ k):x ||| (y*2 ^ k)=x+y*2 ^ k:=by
 have:=Nat.shiftLeft_add_eq_or_of_lt hx y;rw [Nat.shiftLeft_eq] at this;rw [Nat.or_comm,← this,Nat.add_comm]
theorem Ty (x y e:Nat) (hx:x < 256 ^ e) (hy:y < 256) (he:e < 4):IntKind.u32.wrap ((BitVec.ofInt IntKind.u32.bits (x:Int) ||| BitVec.ofInt IntKind.u32.bits (IntKind.u32.wrap ((y:Int)*2 ^ (min (8*e) IntKind.u32.bits)))).toNat:Int)=((x+y*256 ^ e:Nat):Int):=by
 have hp:(256:Nat) ^ e=2 ^ (8*e):=by rw [show (256:Nat)=2 ^ 8 from rfl,← Nat.pow_mul]
 have an:x+y*2 ^ (8*e) < 4294967296:=by
  have h1:(y+1)*2 ^ (8*e)≤256*2 ^ (8*e):=Nat.mul_le_mul_right _ hy;have J:256*2 ^ (8*e)≤4294967296:=by
   have:2 ^ (8*e)≤2 ^ 24:=Nat.pow_le_pow_right (by decide) (by omega)
   omega
  rw [Nat.add_mul] at h1;rw [hp] at hx;omega
 have rf:x < 2 ^ (8*e):=by rw [← hp]; exact hx
 have e1:IntKind.u32.wrap ((y:Int)*2 ^ (min (8*e) 32))=((y*2 ^ (8*e):Nat):Int):=by
  rw [show min (8*e) 32=8*e by omega]
  have:((y*2 ^ (8*e):Nat):Int)=(y:Int)*2 ^ (8*e):=by simp
  rw [← this,di (by omega) (by omega)]
 have key:IntKind.u32.wrap ((BitVec.ofInt 32 (x:Int) ||| BitVec.ofInt 32 (IntKind.u32.wrap ((y:Int)*2 ^ (min (8*e) 32)))).toNat:Int)=((x+y*256 ^ e:Nat):Int):=by
  rw [e1,FH,BitVec.toNat_or,toNat_ofInt32 _ (by omega),toNat_ofInt32 _ (by omega),G9 _ _ _ rf,hp]
 exact key
theorem OJ {N n:Nat} (h:N < B ^ n) (J:n=0∨B ^ (n - 1)≤N):nl N=n:=by
 rcases J with rfl | J
 ·have:=jN h; omega
 ·have h3:=jN h;rcases Nat.lt_or_ge (nl N) n with h4 | h4
  ·have h5:B ^ nl N≤B ^ (n - 1):=Nat.pow_le_pow_right (by decide) (by omega)
   have:=b6 N;omega
  ·omega
theorem Dy (n:Nat):B ^ n=C ^ (4*n):=by rw [Nat.pow_mul]; rfl
theorem OK (N:Nat):nl N=(aQ N+3) / 4:=by
 refine OJ ?_ ?_
 ·rw [Dy];exact Nat.lt_of_lt_of_le (lN N) (Nat.pow_le_pow_right (by decide) (by omega))
 ·by_cases h:N=0
  ·left; subst h; rw [wO]
  ·right
   have:=GD h;rw [Dy];exact Nat.le_trans (Nat.pow_le_pow_right (by decide) (by omega)) (Sa h)
theorem UU (N i:Nat):cH (N % C ^ i) (i / 4) (ao (N % C ^ i) (i / 4)+N / C ^ i % C*256 ^ (i % 4))=N % C ^ (i+1)∧ao (N % C ^ i) (i / 4) < 256 ^ (i % 4):=by
 have hB:B ^ (i / 4)*256 ^ (i % 4)=C ^ i:=by
  rw [Dy,← Nat.pow_add]; congr 1; omega
 have an:N % C ^ i < C ^ i:=Nat.mod_lt _ (gX i);have hl:ao (N % C ^ i) (i / 4) < 256 ^ (i % 4):=by
  have h1:N % C ^ i / B ^ (i / 4) < 256 ^ (i % 4):=(Nat.div_lt_iff_lt_mul (eh _)).2 (by rw [Nat.mul_comm,hB]; exact an)
  unfold ao;exact Nat.lt_of_le_of_lt (Nat.mod_le _ _) h1
 refine ⟨?_,hl⟩;have h:=p6 (N % C ^ i) (i / 4) (ao (N % C ^ i) (i / 4)+N / C ^ i % C*256 ^ (i % 4));have e:N % C ^ (i+1)=N % C ^ i+C ^ i*(N / C ^ i % C):=by rw [Nat.pow_succ,Nat.mod_mul]
 have e2:N / C ^ i % C*256 ^ (i % 4)*B ^ (i / 4)=C ^ i*(N / C ^ i % C):=by
  rw [Nat.mul_assoc,Nat.mul_comm (256 ^ (i % 4)),hB,Nat.mul_comm]
 rw [Nat.add_mul,e2] at h;omega
theorem dM (a:Nat):((a:Int)).tdiv 4=((a / 4:Nat):Int):=rfl
theorem dW (a:Nat):((a:Int)).tmod 4=((a % 4:Nat):Int):=rfl
theorem dU (a:Nat):(8:Int)*(a:Int)=((8*a:Nat):Int):=by omega
theorem dX {m:Nat} (h:0 < m):(m:Int) - 1=((m - 1:Nat):Int):=by omega
theorem dY (m:Nat):(m:Int)+1=((m+1:Nat):Int):=by omega
theorem eD {a b:Nat} (h:b≤a):(a:Int) - (b:Int)=((a - b:Nat):Int):=by omega
theorem eE (a b:Nat):(a:Int)+(b:Int)=((a+b:Nat):Int):=by omega
theorem dZ (a:Nat):(8:Int)*(a:Int)=((8*a:Nat):Int):=by omega
theorem V6 {Q L m r:Nat} (hL:L < B) (hr:r < m):(Q*B+L) / C ^ (m+4 - 1 - r) % C=Q / C ^ (m - 1 - r) % C:=by
 have e:C ^ (m+4 - 1 - r)=B*C ^ (m - 1 - r):=by
  rw [show m+4 - 1 - r=4+(m - 1 - r) by omega,Nat.pow_add]; rfl
 rw [e,← Nat.div_div_eq_div_mul];have:(Q*B+L) / B=Q:=by rw [Nat.mul_comm,Nat.mul_add_div (by decide),Nat.div_eq_of_lt hL,Nat.add_zero]
 rw [this]
theorem V7 {Q L e:Nat} (he:e≤3):(Q*B+L) / C ^ e % C=L / C ^ e % C:=by
 have h:B=C ^ e*(C ^ (3 - e)*C):=by
  rw [← Nat.mul_assoc,← Nat.pow_add,← Nat.pow_succ,show (e+(3 - e)).succ=4 by omega]; rfl
 rw [show Q*B=C ^ e*(Q*C ^ (3 - e)*C) by rw [h,Nat.mul_comm Q,Nat.mul_assoc,Nat.mul_comm (C ^ (3 - e)*C) Q,Nat.mul_assoc Q]]
 rw [Nat.mul_add_div (gX _),Nat.mul_add_mod_self_right]
theorem NU:∀ {n Y r:Nat} (h:r < n),(pU n Y)[r]?=some (UInt8.ofNat (Y / C ^ (n - 1 - r) % C))
 | n+1,Y,r,h=>by
  unfold pU;by_cases hr:r < n
  ·rw [List.getElem?_append_left (by rw [wo]; exact hr),NU hr,Nat.div_div_eq_div_mul,← Nat.pow_succ']
   congr 5; omega
  ·have:r=n:=by omega
   subst this;rw [List.getElem?_append_right (by rw [wo]; exact Nat.le_refl _),wo]
   simp
theorem wq {g:Nat→List Value} {m X:Nat} (h:∀ r,r < m→g r=[.int .u8 ((X / C ^ (m - 1 - r) % C:Nat):Int)]):(⟨⟨bytesOf g 0 m⟩⟩:ByteArray)=be m X:=by
 unfold be
 congr 2
 apply List.ext_getElem?;intro r;by_cases hr:r < m
 ·rw [NU hr];unfold bytesOf;rw [List.getElem?_map,List.getElem?_range hr];simp only [Option.map_some,Nat.zero_add,h r hr,toNat_cast]
 ·rw [List.getElem?_eq_none (l:=pU m X) (by rw [wo]; omega),List.getElem?_eq_none (by simp [bytesOf]; omega)]
theorem dx (a:Int):a*2 ^ min (Int.toNat 32) IntKind.u64.bits=a*4294967296:=rfl
theorem dV (a:Int):a*2 ^ min (Int.toNat 8) IntKind.i64.bits=a*256:=rfl
theorem Po (L:Nat):IntKind.u8.wrap ((L:Int) / 16777216)=((L / C ^ 3 % C:Nat):Int):=by rw [lI]; rfl
theorem Pp (L:Nat):IntKind.u8.wrap ((L:Int) / 65536)=((L / C ^ 2 % C:Nat):Int):=by rw [lI]; rfl
theorem Qe (L:Nat):IntKind.u8.wrap ((L:Int) / 256)=((L / C ^ 1 % C:Nat):Int):=by rw [lI]; rfl
theorem Qf (L:Nat):IntKind.u8.wrap (L:Int)=((L / C ^ 0 % C:Nat):Int):=by rw [lI,Nat.pow_zero,Nat.div_one]; rfl
theorem Lu {N i m:Nat} {g:Nat→List Value} (hi:0 < i) (hg:∀ r,r < m→g r=[.int .u8 ((N / B ^ i / C ^ (m - 1 - r) % C:Nat):Int)]) {L0 L1 L2 L3:List Value}
  (h0:L0=[.int .u8 ((ao N (i - 1) / C ^ 3 % C:Nat):Int)]) (h1:L1=[.int .u8 ((ao N (i - 1) / C ^ 2 % C:Nat):Int)]) (J:L2=[.int .u8 ((ao N (i - 1) / C ^ 1 % C:Nat):Int)]) (h3:L3=[.int .u8 ((ao N (i - 1) / C ^ 0 % C:Nat):Int)]) :
  ∀ r,r < m+4→iH g m (fun j=>[L0,L1,L2,L3].getD j []) r=[.int .u8 ((N / B ^ (i - 1) / C ^ (m+4 - 1 - r) % C:Nat):Int)]:=by
 intro r hr;have hd:=qf N (i - 1);rw [show i - 1+1=i by omega] at hd
 have hd:N / B ^ (i - 1)=N / B ^ i*B+ao N (i - 1):=by rw [hd,Nat.add_comm,Nat.mul_comm]
 by_cases h:r < m
 ·rw [jn h,hg r h,hd,V6 (cK _ _) h]
 ·rw [gp (by omega),hd,V7 (by omega)]
  have:r - m=0∨r - m=1∨r - m=2∨r - m=3:=by omega
  rcases this with e | e | e | e <;> rw [e]
  ·rw [show m+4 - 1 - r=3 by omega]; exact h0
  ·rw [show m+4 - 1 - r=2 by omega]; exact h1
  ·rw [show m+4 - 1 - r=1 by omega]; exact J
  ·rw [show m+4 - 1 - r=0 by omega]; exact h3
theorem Bj {Y i d:Nat} (hY:Y < B ^ i):cH Y i d=Y+d*B ^ i:=by
 have h:=p6 Y i d;rw [uf hY (Nat.le_refl _),Nat.zero_mul,Nat.add_zero] at h;exact h
theorem SR {x y b d b' P K Y u v:Nat} (hY:Y < P) (he:u+b*P=Y+v) (hd:x+b'*K=y+b+d) (dJ:d < K):Y+d*P < P*K∧u+x*P+b'*(P*K)=Y+d*P+(v+y*P):=by
 have h1:(x+b'*K)*P=(y+b+d)*P:=by rw [hd]
 rw [Nat.add_mul,Nat.add_mul,Nat.add_mul] at h1;have J:b'*(P*K)=b'*K*P:=by rw [Nat.mul_comm P,Nat.mul_assoc]
 have h3:(d+1)*P≤P*K:=by rw [Nat.mul_comm P]; exact Nat.mul_le_mul_right _ dJ
 rw [Nat.add_mul,Nat.one_mul] at h3;rw [J];exact ⟨by omega,by omega⟩
theorem Tz {A D Y b i d b':Nat} (hY:Y < B ^ i) (he:A % B ^ i+b*B ^ i=Y+D % B ^ i) (hd:ao A i+b'*B=ao D i+b+d) (dJ:d < B) :
  cH Y i d < B ^ (i+1)∧A % B ^ (i+1)+b'*B ^ (i+1)=cH Y i d+D % B ^ (i+1):=by
 rw [Bj hY,mod_succ A i,mod_succ D i,Nat.pow_succ];exact SR hY he hd dJ
theorem mB {Z j d m:Nat} (hZ:Z < B ^ m) (hj:j < m) (hd:d < B):cH Z j d < B ^ m:=by
 have h1:(cH Z j d) / B ^ m=0:=by
  have e:B ^ m=B ^ j*(B*B ^ (m - j - 1)):=by
   rw [← Nat.mul_assoc,← Nat.pow_succ,← Nat.pow_add,show j+1+(m - j - 1)=m by omega]
  have ha:Z % B ^ j < B ^ j:=Nat.mod_lt _ (eh j);unfold cH;rw [e,← Nat.div_div_eq_div_mul,oX ha,← Nat.div_div_eq_div_mul,oX hd,Nat.div_div_eq_div_mul,← Nat.pow_add,show j+1+(m - j - 1)=m by omega]
  exact Nat.div_eq_of_lt hZ
 rcases Nat.lt_or_ge (cH Z j d) (B ^ m) with h | h
 ·exact h
 ·have:=Nat.div_pos h (eh m);omega
theorem KX {Z Z' l c x d P Q K t Y v:Nat} (he:Z+c*(P*Q)=Y+x*v*P) (hs:Z'+l*(P*Q)=Z+t % K*(P*Q)) (ht:t=c+(x*d+l)) :
  Z'+t / K*(P*Q*K)=Y+x*(v+d*Q)*P:=by
 have h1:=Nat.mod_add_div t K;have J:(t % K+K*(t / K))*(P*Q)=(c+(x*d+l))*(P*Q):=by rw [h1,ht]
 rw [Nat.add_mul,Nat.add_mul,Nat.add_mul] at J;have e1:K*(t / K)*(P*Q)=t / K*(P*Q*K):=by
  rw [Nat.mul_comm K,Nat.mul_assoc,Nat.mul_comm K]
 have e2:x*(v+d*Q)*P=x*v*P+x*d*(P*Q):=by
  rw [Nat.mul_add,Nat.add_mul,← Nat.mul_assoc x d Q,Nat.mul_assoc (x*d),Nat.mul_comm Q P]
 rw [e1] at J;rw [e2];generalize t / K*(P*Q*K)=a1 at *;generalize t % K*(P*Q)=a2 at *;generalize c*(P*Q)=a3 at *;generalize x*d*(P*Q)=a4 at *;generalize l*(P*Q)=a5 at *;generalize x*v*P=a6 at *;omega
theorem KY {c x d l K t:Nat} (hc:c < K) (hx:x < K) (hd:d < K) (hl:l < K) (ht:t=c+(x*d+l)):t / K < K∧t < K*K:=by
 have h1:(x+1)*(d+1)≤K*K:=Nat.mul_le_mul hx hd;have J:t < K*K:=by
  rw [Nat.add_mul,Nat.mul_add] at h1;by_cases hk:K=0
  ·omega
  ·have h3:x*d≤(K - 1)*(K - 1):=Nat.mul_le_mul (by omega) (by omega)
   obtain ⟨k,rfl⟩:∃ k,K=k+1:=⟨K - 1,by omega⟩
   rw [Nat.add_sub_cancel] at h3;have e:(k+1)*(k+1)=k*k+k+k+1:=by rw [Nat.add_mul,Nat.mul_add]; omega
   omega
 exact ⟨(Nat.div_lt_iff_lt_mul (by omega)).2 J,J⟩
theorem TA {Z c x D i k t Y:Nat} (he:Z+c*B ^ (i+k)=Y+x*(D % B ^ k)*B ^ i) (ht:t=c+(x*ao D k+ao Z (i+k))) :
  cH Z (i+k) (t % B)+t / B*B ^ (i+(k+1))=Y+x*(D % B ^ (k+1))*B ^ i:=by
 have hs:=p6 Z (i+k) (t % B);rw [mod_succ D k,← Nat.add_assoc,Nat.pow_succ];rw [Nat.pow_add] at he hs ⊢;exact KX he hs ht
theorem UW {A D Y Z c i n:Nat} (hY:Y=A % B ^ i*D) (hD:D < B ^ n) (hZ:Z < B ^ (i+n)) (he:Z+c*B ^ (i+n)=Y+ao A i*(D % B ^ n)*B ^ i) :
  cH Z (i+n) c=A % B ^ (i+1)*D:=by
 rw [Bj hZ,he,Nat.mod_eq_of_lt hD,hY,mod_succ,Nat.add_mul,Nat.mul_assoc (ao A i),Nat.mul_comm D,← Nat.mul_assoc]
theorem UX {c x d l t:Nat} (hc:c < B) (hx:x < B) (hd:d < B) (hl:l < B) (ht:t=c+(x*d+l)) :
  IntKind.u64.wrap ((c:Int)+IntKind.u64.wrap (IntKind.u64.wrap (IntKind.u64.wrap (x:Int)*IntKind.u64.wrap (d:Int))+IntKind.u64.wrap (l:Int)))=(t:Int):=by
 have hB:B=4294967296:=rfl;have h:=(KY hc hx hd hl ht).2;have hm:((x:Int)*(d:Int))=((x*d:Nat):Int):=by simp
 rw [bL (x:=(x:Int)) (by omega) (by omega),bL (x:=(d:Int)) (by omega) (by omega),bL (x:=(l:Int)) (by omega) (by omega),hm]
 generalize x*d=m at *;rw [hB] at h;rw [bL (x:=(m:Int)) (by omega) (by omega),bL (x:=(m:Int)+(l:Int)) (by omega) (by omega),bL (by omega) (by omega)]
 omega
theorem eI (t:Nat):IntKind.u32.wrap (t:Int)=((t % B:Nat):Int):=by rw [wN]; rfl
theorem jO (t:Nat):(t:Int) / 4294967296=((t / B:Nat):Int):=rfl
open Go
def u32 (n:Nat):Value:=.int .u32 n
def i64 (n:Int):Value:=.int .i64 n
def uK:bE:={ ι:=Nat × Nat × Nat,args:=fun i=>[.int .u32 i.1,.int .u32 i.2.1,.int .u32 i.2.2],pre:=fun i=>i.1 < 4294967296∧i.2.1 < 4294967296∧i.2.2≤1,val:=fun i=>.tuple ⟨[.int .u32 ((i.1+i.2.1+i.2.2) % 4294967296:Nat),.int .u32 ((i.1+i.2.1+i.2.2) / 4294967296:Nat)]⟩ }
def lO:bE:={ ι:=Nat × Nat × Nat,args:=fun i=>[.int .u32 i.1,.int .u32 i.2.1,.int .u32 i.2.2],pre:=fun i=>i.1 < 4294967296∧i.2.1 < 4294967296∧i.2.2≤1,val:=fun i=>.tuple ⟨[.int .u32 ((i.1+2*4294967296 - i.2.1 - i.2.2) % 4294967296:Nat),.int .u32 (if i.1 < i.2.1+i.2.2 then 1 else 0:Nat)]⟩ }
def CM:bE:={ ι:=Nat × Nat × Nat,args:=fun i=>[.int .u32 i.1,.int .u32 i.2.1,.int .u32 i.2.2],pre:=fun i=>i.1 < i.2.2∧i.2.1 < 4294967296∧i.2.2 < 4294967296,val:=fun i=>.tuple ⟨[.int .u32 ((i.1*4294967296+i.2.1) / i.2.2:Nat),.int .u32 ((i.1*4294967296+i.2.1) % i.2.2:Nat)]⟩ }
def Ha:bE:={ ι:=Nat,args:=fun x=>[.int .u32 x],pre:=fun x=>x < 4294967296,val:=fun x=>.int .i64 (e9 x:Nat) }
def C9:bE:={ ι:=Nat,args:=fun x=>[.int .u32 x],pre:=fun x=>x < 4294967296,val:=fun x=>.int .i64 (32 - e9 x:Nat) }
def AG:Nat:=1099511627776
def kT:bE:={ ι:=ByteArray,args:=fun s=>[.string s],pre:=fun s=>s.size≤1099511627776,val:=fun s=>.string (nb (ab s)) }
abbrev LV:=Option (Nat × Nat × Nat)
def LV.val:LV→Value
 | none=>.slice none 0 0
 | some (n,_,c)=>.slice (some ⟨0,0,none⟩) n c
def LV.ae:LV→List aj
 | none=>[]
 | some (n,N,_)=>[.flat false n 1 (bo N)]
def LV.num:LV→Nat
 | none=>0
 | some (_,N,_)=>N
def LV.ok:LV→Prop
 | none=>True
 | some (n,N,_)=>N < 4294967296 ^ n∧n≤274877906944
def LV.cut:LV→Value
 | none=>.slice none 0 0
 | some (_,N,c)=>.slice (some ⟨0,0,none⟩) (nl N) c
def sI:a9:={ ι:=LV,args:=fun i=>[i.val],ae:=LV.ae,pre:=LV.ok,val:=LV.cut,new:=fun _=>none }
def y8:a9:={ ι:=LV,args:=fun i=>[i.val],ae:=LV.ae,pre:=LV.ok,val:=fun i=>.string (nb i.num),new:=fun _=>none }
def uX:a9:={ ι:=ByteArray,args:=fun s=>[.string s],ae:=fun _=>[],pre:=fun s=>s.size≤1099511627776,val:=fun s=>.slice (some ⟨0,0,none⟩) (nl (ab s)) aM,new:=fun s=>some (.flat false (nl (ab s)) 1 (bo (ab s))) }
def uY:a9:={ ι:=Bool × LV,args:=fun i=>[.bool i.1,i.2.val],ae:=fun i=>i.2.ae,pre:=fun i=>i.2.ok,val:=fun i=>.agg ⟨[.bool (i.1 && i.2.num != 0),.string (nb i.2.num)]⟩,new:=fun _=>none }
def two (A ca D cd:Nat):List Value:=[.slice (some ⟨0,0,none⟩) (nl A) ca,.slice (some ⟨1,0,none⟩) (nl D) cd]
def kE (A D:Nat):List aj:=[.flat false (nl A) 1 (bo A),.flat false (nl D) 1 (bo D)]
abbrev I2:=Nat × Nat × Nat × Nat
def y9 (i:I2):Prop:=nl i.1≤137438953472∧nl i.2.2.1≤137438953472
def cP (A D:Nat):Int:=if A < D then -1 else if D < A then 1 else 0
def wP:a9:={ ι:=I2,args:=fun i=>two i.1 i.2.1 i.2.2.1 i.2.2.2,ae:=fun i=>kE i.1 i.2.2.1,pre:=y9,val:=fun i=>.int .i64 (cP i.1 i.2.2.1),new:=fun _=>none }
def lg (id N:Nat):Value:=.slice (some ⟨id,0,none⟩) (nl N) aM
def dN (N:Nat):aj:=.flat false (nl N) 1 (bo N)
def Da:a9:={ ι:=I2,args:=fun i=>two i.1 i.2.1 i.2.2.1 i.2.2.2,ae:=fun i=>kE i.1 i.2.2.1,pre:=y9,val:=fun i=>lg 2 (i.1+i.2.2.1),new:=fun i=>some (dN (i.1+i.2.2.1)) }
def CN:a9:={ ι:=I2,args:=fun i=>two i.1 i.2.1 i.2.2.1 i.2.2.2,ae:=fun i=>kE i.1 i.2.2.1,pre:=fun i=>y9 i∧i.2.2.1≤i.1,val:=fun i=>lg 2 (i.1 - i.2.2.1),new:=fun i=>some (dN (i.1 - i.2.2.1)) }
def CO:a9:={ ι:=I2,args:=fun i=>two i.1 i.2.1 i.2.2.1 i.2.2.2,ae:=fun i=>kE i.1 i.2.2.1,pre:=y9,val:=fun i=>lg 2 (i.1*i.2.2.1),new:=fun i=>some (dN (i.1*i.2.2.1)) }
open Go
theorem Lv {Y c P K a d x y t:Nat} (he:Y+c*P=a+d) (ht:t=c+x+y):Y+t % K*P+t / K*(P*K)=(a+x*P)+(d+y*P):=by
 have h:=Nat.mod_add_div t K;have e1:t*P=t % K*P+t / K*(P*K):=by
  calc t*P=(t % K+K*(t / K))*P:=by rw [h]
   _=t % K*P+t / K*(P*K):=by rw [Nat.add_mul,Nat.mul_comm K,Nat.mul_assoc,Nat.mul_comm K P]
 have e2:t*P=c*P+x*P+y*P:=by rw [ht,Nat.add_mul,Nat.add_mul]
 omega
theorem Mn {X D Y c i t:Nat} (he:Y+c*B ^ i=X % B ^ i+D % B ^ i) (ht:t=c+ao X i+ao D i) :
  Y+t % B*B ^ i+t / B*B ^ (i+1)=X % B ^ (i+1)+D % B ^ (i+1):=by
 rw [mod_succ X i,mod_succ D i,Nat.pow_succ];exact Lv he ht
theorem wu {Y d i:Nat} (hY:Y < B ^ i) (hd:d < B):Y+d*B ^ i < B ^ (i+1):=by
 have h:(d+1)*B ^ i≤B*B ^ i:=Nat.mul_le_mul_right _ hd;rw [Nat.pow_succ,Nat.mul_comm (B ^ i) B];rw [Nat.add_mul] at h;omega
theorem V8 {Y d i:Nat} (hY:Y < B ^ i) (hd:d < B) {r:Nat} (hr:r < i+1):ao (Y+d*B ^ i) r=if r < i then ao Y r else d:=by
 rw [← Bj hY,F6 hd]
 split <;> split <;> first | rfl | omega
theorem Cn {Y d i:Nat} (hY:Y < B ^ i) (hd:d < B) {g:Nat→List Value} (hg:∀ r,r < i→g r=bo Y r) :
  ∀ r,r < i+1→iH g i (fun j=>[[Value.int .u32 (d:Nat)]].getD j []) r=bo (Y+d*B ^ i) r:=by
 intro r hr;have h:=V8 hY hd hr;by_cases h1:r < i
 ·rw [jn h1,hg r h1];rw [if_pos h1] at h;simp [bo,h]
 ·rw [gp (by omega),show r - i=0 by omega]
  rw [if_neg h1] at h;simp [bo,h]
theorem BV {a b:Nat} (ha:a < 4611686018427387904) (hb:b < 4611686018427387904):IntKind.u64.wrap ((a:Int)+IntKind.u64.wrap (b:Int))=((a+b:Nat):Int):=by
 rw [bL (x:=(b:Int)) (by omega) (by omega),bL (by omega) (by omega)]; omega
open Go
theorem Lw {A d i t:Nat} (hd:0 < d) (ht:t=A / B ^ (i+1) % d*B+ao A i) :
  A / B ^ i % d=t % d∧A / B ^ i / d=A / B ^ (i+1) / d*B+t / d:=by
 have h:=qf A i;have J:=Nat.mod_add_div (A / B ^ (i+1)) d;have e:A / B ^ i=t+d*(A / B ^ (i+1) / d*B):=by
  rw [h,ht];have:B*(A / B ^ (i+1))=B*(A / B ^ (i+1) % d)+d*(A / B ^ (i+1) / d*B):=by
   conv=>lhs; rw [← J]
   rw [Nat.mul_add,Nat.mul_comm (A / B ^ (i+1) / d) B,Nat.mul_left_comm]
  rw [this,Nat.mul_comm B (A / B ^ (i+1) % d)];omega
 constructor
 ·rw [e,Nat.add_mul_mod_self_left]
 ·rw [e,Nat.add_mul_div_left _ _ hd]; omega
theorem KE (K i:Nat):ao (K*B ^ (i+1)) i=0:=by
 unfold ao;rw [Nat.pow_succ,Nat.mul_comm (B ^ i),← Nat.mul_assoc,Nat.mul_div_cancel _ (eh i)];exact Nat.mul_mod_left _ _
theorem EA {Y i d:Nat} (h:ao Y i=0):cH Y i d=Y+d*B ^ i:=by
 have:=p6 Y i d;rw [h] at this;omega
theorem UY {A d i t:Nat} (hd:0 < d) (ht:t=A / B ^ (i+1) % d*B+ao A i):cH (A / B ^ (i+1) / d*B ^ (i+1)) i (t / d)=A / B ^ i / d*B ^ i:=by
 rw [EA (KE _ _),(Lw hd ht).2,Nat.pow_succ,Nat.add_mul,Nat.mul_assoc,Nat.mul_comm B]
theorem V9 {A d i t:Nat} (hd:0 < d) (ht:t=A / B ^ (i+1) % d*B+ao A i):t / d < B:=by
 have h1:=Nat.mod_lt (A / B ^ (i+1)) hd;have J:=cK A i;refine (Nat.div_lt_iff_lt_mul hd).2 ?_;have h3:(A / B ^ (i+1) % d+1)*B≤d*B:=Nat.mul_le_mul_right _ h1;rw [Nat.mul_comm d B] at h3;rw [Nat.add_mul] at h3;omega
theorem wQ {s:Nat} (h:s≤31):2 ^ s≤2147483648:=Nat.le_trans (Nat.pow_le_pow_right (by decide) h) (by decide:2 ^ 31≤2147483648)
theorem Xx {s l:Nat} (hs:s≤31) (hl:l < B):IntKind.u64.wrap ((l:Int)*2 ^ min s IntKind.u64.bits)=((l*2 ^ s:Nat):Int):=by
 have h:=wQ hs;have e:min s IntKind.u64.bits=s:=by show min s 64=s; omega
 rw [e];have J:l*2 ^ s≤4294967296*2147483648:=Nat.mul_le_mul (Nat.le_of_lt hl) h;have:((l*2 ^ s:Nat):Int)=(l:Int)*2 ^ s:=by simp
 rw [← this,bL (by omega) (by omega)]
theorem NV {s l:Nat} (hs:s≤31):(l:Int).fdiv (2 ^ min s IntKind.u64.bits)=((l / 2 ^ s:Nat):Int):=by
 have e:min s IntKind.u64.bits=s:=by show min s 64=s; omega
 rw [e,sH];simp
theorem aao {u l s:Nat} (hs:s≤31) (hu:u < 2 ^ s):IntKind.u32.wrap ((BitVec.ofInt IntKind.u32.bits (u:Int) ||| BitVec.ofInt IntKind.u32.bits ((l*2 ^ s % B:Nat):Int)).toNat:Int)=((u+l*2 ^ s % B:Nat):Int):=by
 have h:=wQ hs;have hv:l*2 ^ s % B < 4294967296:=Nat.mod_lt _ (by decide)
 have e:l*2 ^ s % B=(l % 2 ^ (32 - s))*2 ^ s:=by
  have:B=2 ^ (32 - s)*2 ^ s:=by rw [← Nat.pow_add,show 32 - s+s=32 by omega]
  rw [this,Nat.mul_mod_mul_right]
 have key:IntKind.u32.wrap ((BitVec.ofInt 32 (u:Int) ||| BitVec.ofInt 32 ((l*2 ^ s % B:Nat):Int)).toNat:Int)=((u+l*2 ^ s % B:Nat):Int):=by
  rw [FH,BitVec.toNat_or,toNat_ofInt32 _ (by omega),toNat_ofInt32 _ hv,e,G9 _ _ _ hu]
 exact key
theorem Pq {u l s:Nat} (hs:s≤31) (hu:u < 2 ^ s):u+l*2 ^ s % B < B:=by
 have h:=wQ hs;have hv:l*2 ^ s % B < 2 ^ 32:=Nat.mod_lt _ (by decide)
 have e:l*2 ^ s % B=(l % 2 ^ (32 - s))*2 ^ s:=by
  have:B=2 ^ (32 - s)*2 ^ s:=by rw [← Nat.pow_add,show 32 - s+s=32 by omega]
  rw [this,Nat.mul_mod_mul_right]
 rw [e] at hv ⊢;rw [← G9 _ _ _ hu];exact Nat.or_lt_two_pow (n:=32) (Nat.lt_of_lt_of_le hu (by omega)) hv
theorem Lx {A s i:Nat}:ao (A % B ^ i*2 ^ s) i < 2 ^ s:=by
 refine Nat.lt_of_le_of_lt (Nat.mod_le _ _) ?_;refine (Nat.div_lt_iff_lt_mul (eh i)).2 ?_;rw [Nat.mul_comm];exact Nat.mul_lt_mul_of_pos_left (Nat.mod_lt _ (eh i)) (Nat.pow_pos (by decide))
theorem Wa {A s i:Nat} (hs:s≤31):A % B ^ i*2 ^ s < B ^ (i+1):=by
 have h:=wQ hs;rw [Nat.pow_succ];exact Nat.mul_lt_mul_of_lt_of_le (Nat.mod_lt _ (eh i)) (by show _≤4294967296; omega) (by decide)
theorem TB {A s i:Nat} (hs:s≤31):cH (cH (A % B ^ i*2 ^ s) i (ao (A % B ^ i*2 ^ s) i+ao A i*2 ^ s % B)) (i+1) (ao A i*2 ^ s / B)=A % B ^ (i+1)*2 ^ s:=by
 have an:=Wa (A:=A) (i:=i) hs;have JC:=Pq (l:=ao A i) hs (Lx (A:=A) (s:=s) (i:=i));have h1:=p6 (A % B ^ i*2 ^ s) i (ao (A % B ^ i*2 ^ s) i+ao A i*2 ^ s % B);rw [Nat.add_mul] at h1;have e1:cH (A % B ^ i*2 ^ s) i (ao (A % B ^ i*2 ^ s) i+ao A i*2 ^ s % B)=A % B ^ i*2 ^ s+ao A i*2 ^ s % B*B ^ i:=by omega
 have J:ao (cH (A % B ^ i*2 ^ s) i (ao (A % B ^ i*2 ^ s) i+ao A i*2 ^ s % B)) (i+1)=0:=by
  rw [F6 JC,if_neg (by omega)]
  exact uf an (Nat.le_refl _)
 rw [EA J,e1,mod_succ,Nat.add_mul,Nat.pow_succ];have h3:=Nat.mod_add_div (ao A i*2 ^ s) B;have h4:ao A i*B ^ i*2 ^ s=(ao A i*2 ^ s % B+B*(ao A i*2 ^ s / B))*B ^ i:=by rw [h3,Nat.mul_right_comm]
 rw [h4,Nat.add_mul,Nat.add_assoc]
 congr 1
 rw [Nat.mul_comm (B ^ i) B,← Nat.mul_assoc,Nat.mul_comm B (ao A i*2 ^ s / B)]
theorem So {A s i:Nat} (hs:s≤31):ao (A / 2 ^ s) i=(ao A i+ao A (i+1)*B) / 2 ^ s % B:=by
 obtain ⟨w,hw⟩:∃ w,w=ao A i+ao A (i+1)*B:=⟨_,rfl⟩;have e:A / B ^ i=w+(B*B)*(A / B ^ (i+1+1)):=by
  rw [qf A i,qf A (i+1),Nat.mul_add,Nat.mul_comm B (ao A (i+1)),Nat.mul_assoc,hw,← Nat.add_assoc]
 rw [← hw];show A / 2 ^ s / B ^ i % B=_
 rw [Nat.div_div_eq_div_mul,Nat.mul_comm (2 ^ s),← Nat.div_div_eq_div_mul,e];have hB:B=2 ^ s*2 ^ (32 - s):=by rw [← Nat.pow_add,show s+(32 - s)=32 by omega]
 have:B*B*(A / B ^ (i+1+1))=2 ^ s*(B*(2 ^ (32 - s)*(A / B ^ (i+1+1)))):=by
  conv=>lhs; rw [Nat.mul_assoc]; lhs; rw [hB]
  rw [Nat.mul_assoc,Nat.mul_left_comm (2 ^ (32 - s)) B]
 rw [this,Nat.add_mul_div_left _ _ (Nat.pow_pos (by decide)),Nat.add_mul_mod_self_left]
theorem Wb {x y:Nat} (hx:x < 4294967296) (hy:y < 4294967296):IntKind.u64.wrap ((BitVec.ofInt IntKind.u64.bits (y:Int) ||| BitVec.ofInt IntKind.u64.bits ((x:Int)*4294967296)).toNat:Int)=((y+x*B:Nat):Int):=by
 rw [BitVec.or_comm,dy x y hx hy];show _=(((y+x*4294967296:Nat)):Int)
 omega
theorem UZ {W D P q:Nat} (hD:0 < D) (hP:0 < P) (h:W / P < q*(D / P)):W / D < q:=by
 refine (Nat.div_lt_iff_lt_mul hD).2 ?_;have h1:W < (W / P+1)*P:=by
  rw [Nat.mul_comm]; exact Nat.lt_mul_div_succ W hP
 have J:(W / P+1)*P≤q*(D / P)*P:=Nat.mul_le_mul_right _ h;have h3:q*(D / P)*P≤q*D:=by
  rw [Nat.mul_assoc]; exact Nat.mul_le_mul_left _ (Nat.div_mul_le_self _ _)
 omega
theorem TC {W D P q K:Nat} (hP:0 < P) (h:q*(D / P)≤W / P) (hq:q≤K) (hK:K*P≤D):q≤W / D+1:=by
 rcases Nat.eq_zero_or_pos q with h0 | h0
 ·rw [h0]; exact Nat.zero_le _
 by_cases hD:D=0
 ·have hK0:K*P=0:=by omega
  rcases Nat.mul_eq_zero.1 hK0 with h | h <;> omega
 have h1:D < (D / P+1)*P:=by
  rw [Nat.mul_comm]; exact Nat.lt_mul_div_succ D hP
 have J:q*D < q*((D / P+1)*P):=Nat.mul_lt_mul_of_pos_left h1 h0;have e2:q*((D / P+1)*P)=q*(D / P)*P+q*P:=by rw [Nat.add_mul,Nat.mul_add,Nat.one_mul,Nat.mul_assoc]
 have h3:q*(D / P)*P≤W / P*P:=Nat.mul_le_mul_right _ h;have h4:W / P*P≤W:=Nat.div_mul_le_self _ _;have h5:q*P≤K*P:=Nat.mul_le_mul_right _ hq;have h6:q*D < W+D:=by omega
 have h7:(q - 1)*D≤W:=by
  rw [Nat.sub_mul,Nat.one_mul]; omega
 have:=(Nat.le_div_iff_mul_le (by omega:0 < D)).2 h7
 omega
theorem F8 (X j k:Nat):ao (X / B ^ j) k=ao X (j+k):=by
 unfold ao;rw [Nat.div_div_eq_div_mul,← Nat.pow_add]
theorem yS {W k:Nat} (h:W < B ^ (k+1)):ao W k=W / B ^ k:=by
 unfold ao;refine Nat.mod_eq_of_lt ((Nat.div_lt_iff_lt_mul (eh k)).2 ?_);rw [Nat.mul_comm,← Nat.pow_succ]; exact h
theorem aeB {W k:Nat} (h:W < B ^ (k+2)):W / B ^ k=ao W (k+1)*B+ao W k:=by
 rw [qf W k,← yS h,Nat.mul_comm,Nat.add_comm]
theorem M4 {q d1 d0 r w0 K top:Nat} (he:q*d1+r=top):(q*(d1*K+d0)≤top*K+w0↔q*d0≤r*K+w0):=by
 have e:top*K=q*(d1*K)+r*K:=by rw [← he,Nat.add_mul,Nat.mul_assoc]
 rw [Nat.mul_add,e];omega
theorem Ly {Z Z' v P l d t low c' c b b' x q X v' K:Nat} (he:Z+v=X+(b+c)*P) (hs:Z'+l*P=Z+d*P) (ht:t=c+q*x) (rC:t=low+K*c') (hd:l+b'*K=low+b+d) (hv:v'=v+q*x*P) :
  Z'+v'=X+(b'+c')*(P*K):=by
 have e1:t*P=c*P+q*x*P:=by rw [ht,Nat.add_mul]
 have e2:t*P=low*P+c'*(P*K):=by rw [rC,Nat.add_mul,Nat.mul_comm K,Nat.mul_assoc,Nat.mul_comm K P]
 have e3:l*P+b'*(P*K)=low*P+b*P+d*P:=by
  have:=congrArg (·*P) hd;simp only [Nat.add_mul] at this;rw [Nat.mul_assoc b' K P,Nat.mul_comm K P] at this;exact this
 rw [Nat.add_mul] at he ⊢;omega
theorem BC {X Z D q c b b' i j t d:Nat} (he:Z+q*(D % B ^ i)*B ^ j=X+(b+c)*B ^ (j+i)) (ht:t=c+q*ao D i) (hd:ao Z (j+i)+b'*B=t % B+b+d) :
  cH Z (j+i) d+q*(D % B ^ (i+1))*B ^ j=X+(b'+t / B)*B ^ (j+(i+1)):=by
 have ep:B ^ (j+(i+1))=B ^ (j+i)*B:=rfl;rw [ep];refine Ly he (p6 Z (j+i) d) ht (Nat.mod_add_div t B).symm hd ?_;rw [mod_succ,Nat.mul_add,Nat.add_mul,Nat.pow_add,← Nat.mul_assoc q (ao D i),Nat.mul_comm (B ^ j) (B ^ i),Nat.mul_assoc (q*ao D i)]
theorem BD {X Z D q c b b' n j d:Nat} (hD:D < B ^ n) (hc:c < B) (he:Z+q*(D % B ^ n)*B ^ j=X+(b+c)*B ^ (j+n)) (hd:ao Z (j+n)+b'*B=c+b+d) :
  cH Z (j+n) d+q*(D*B ^ j)=X+b'*B ^ (j+n+1):=by
 rw [Nat.mod_eq_of_lt hD] at he;have:=Ly (K:=B) (x:=0) (t:=c) (c':=0) (low:=c) (q:=q) (v':=q*D*B ^ j) he (p6 Z (j+n) d) (by omega) (by omega) hd (by omega)
 rw [← Nat.mul_assoc,this,Nat.pow_succ]
 rfl
theorem TD {Z Z' v P l c x t Y v' K:Nat} (he:Z+c*P=Y+v) (hs:Z'+l*P=Z+t % K*P) (ht:t=l+x+c) (hv:v'=v+x*P):Z'+t / K*(P*K)=Y+v':=by
 have h:=Nat.mod_add_div t K;have e1:t*P=t % K*P+t / K*(P*K):=by
  calc t*P=(t % K+K*(t / K))*P:=by rw [h]
   _=t % K*P+t / K*(P*K):=by rw [Nat.add_mul,Nat.mul_comm K,Nat.mul_assoc,Nat.mul_comm K P]
 have e2:t*P=l*P+x*P+c*P:=by rw [ht,Nat.add_mul,Nat.add_mul]
 omega
theorem BE {Y Z D c i j t:Nat} (he:Z+c*B ^ (j+i)=Y+D % B ^ i*B ^ j) (ht:t=ao Z (j+i)+ao D i+c) :
  cH Z (j+i) (t % B)+t / B*B ^ (j+(i+1))=Y+D % B ^ (i+1)*B ^ j:=by
 have ep:B ^ (j+(i+1))=B ^ (j+i)*B:=rfl;rw [ep];refine TD he (p6 Z (j+i) (t % B)) ht ?_;rw [mod_succ,Nat.add_mul,Nat.pow_add,Nat.mul_comm (B ^ j),Nat.mul_assoc]
theorem Bk {X Z E q:Nat} (hE:0 < E) (h:Z+q*E=X) (hq:X / E≤q):q=X / E∧Z=X % E:=by
 have h1:q≤X / E:=(Nat.le_div_iff_mul_le hE).2 (by omega)
 have J:q=X / E:=by omega
 refine ⟨J,?_⟩;have:=Nat.mod_add_div X E;rw [J,Nat.mul_comm] at h;omega
theorem Bl {X Z E q M:Nat} (hE:0 < E) (h:Z+q*E=X+M) (hZ:Z < M) (hq:q≤X / E+1):q=X / E+1∧Z+E=X % E+M:=by
 have h1:X < q*E:=by omega
 have J:X / E < q:=(Nat.div_lt_iff_lt_mul hE).2 h1;have h3:q=X / E+1:=by omega
 refine ⟨h3,?_⟩;have:=Nat.mod_add_div X E;rw [h3,Nat.add_mul,Nat.one_mul,Nat.mul_comm] at h;omega
theorem BF {V R c k:Nat} (hV:V < B ^ (k+1)) (hR:R < B ^ k) (hc:c≤1) (h:V+c*B ^ k=R+B ^ (k+1)):cH V k ((ao V k+c) % B)=R:=by
 have rB:c=1:=by
  rcases Nat.eq_zero_or_pos c with h0 | h0
  ·subst h0; omega
  ·omega
 subst rB;have e:V=R+(B - 1)*B ^ k:=by
  rw [Nat.pow_succ,Nat.mul_comm (B ^ k) B] at h;rw [Nat.sub_mul];have:1*B ^ k≤B*B ^ k:=Nat.mul_le_mul_right _ (by decide)
  omega
 have e2:ao V k=B - 1:=by
  rw [yS hV,e,Nat.add_mul_div_right _ _ (eh k),Nat.div_eq_of_lt hR,Nat.zero_add]
 have J:=p6 V k ((ao V k+1) % B);have e3:(B - 1+1) % B=0:=by decide
 rw [e2,e3] at J;rw [e2,e3];omega
theorem SS {X D j n n1 n2:Nat} (J:n2=nl D) (h0:n2=n+2) (h1:n1=n+1) (hd:2147483648≤ao D n1) (hX:X < D*B ^ (j+1)) :
  X / B ^ j / B ^ n=(ao X (j+n2)*B+ao X (j+n1))*B+ao X (j+n)∧D / B ^ n=ao D n1*B+ao D n∧X / B ^ j / D < B∧B*B ^ n≤D ∧
  X / B ^ j / D≤(ao X (j+n2)*B+ao X (j+n1)) / ao D n1∧(ao X (j+n2)*B+ao X (j+n1)) / ao D n1≤B+1∧X < B ^ (j+n2+1):=by
 subst h1;have hD:D < B ^ (n+2):=by have:=b6 D; rw [← J,h0] at this; exact this
 have D5:=yS (W:=D) (k:=n+1) hD;have yf:0 < D:=by
  rcases Nat.eq_zero_or_pos D with h | h
  ·subst h; rw [FF] at hd; omega
  ·exact h
 have hW:X / B ^ j < D*B:=by
  refine (Nat.div_lt_iff_lt_mul (eh j)).2 ?_;rw [Nat.mul_assoc,Nat.mul_comm B,← Nat.pow_succ]; exact hX
 have hW3:X / B ^ j < B ^ (n+1+2):=by
  have e:B ^ (n+1+2)=B ^ (n+2)*B:=rfl;rw [e];exact Nat.lt_of_lt_of_le hW (Nat.mul_le_mul_right _ (Nat.le_of_lt hD))
 have ht:=aeB hW3;rw [F8,F8] at ht;have rC:X / B ^ j / B ^ (n+1)=ao X (j+n2)*B+ao X (j+(n+1)):=by rw [h0]; exact ht
 obtain ⟨top,vg⟩:∃ top,top=ao X (j+n2)*B+ao X (j+(n+1)):=⟨_,rfl⟩;rw [← vg] at rC ⊢;have hw:=qf (X / B ^ j) n;rw [rC,F8] at hw;have c9:=qf D n;rw [← D5] at c9;obtain ⟨W,hWd⟩:∃ W,W=X / B ^ j:=⟨_,rfl⟩;obtain ⟨d1,gg⟩:∃ d1,d1=ao D (n+1):=⟨_,rfl⟩;rw [← hWd] at hw rC hW ⊢;rw [← gg] at c9 hd D5 ⊢;have Ao:d1*B ^ (n+1)≤D:=by rw [D5]; exact Nat.div_mul_le_self _ _
 have dG:D < (d1+1)*B ^ (n+1):=by rw [D5,Nat.mul_comm]; exact Nat.lt_mul_div_succ _ (eh _)
 refine ⟨?_,?_,?_,?_,?_,?_,?_⟩
 ·rw [hw,Nat.mul_comm B top,Nat.add_comm]
 ·rw [c9,Nat.mul_comm B d1,Nat.add_comm]
 ·exact (Nat.div_lt_iff_lt_mul yf).2 (by rw [Nat.mul_comm]; exact hW)
 ·have e:B*B ^ n=1*B ^ (n+1):=by rw [Nat.pow_succ,Nat.mul_comm,Nat.one_mul]
  rw [e];exact Nat.le_trans (Nat.mul_le_mul_right _ (by omega)) Ao
 ·refine (Nat.le_div_iff_mul_le (by omega)).2 ?_
  rw [← rC];refine (Nat.le_div_iff_mul_le (eh _)).2 ?_;rw [Nat.mul_assoc];exact Nat.le_trans (Nat.mul_le_mul_left _ Ao) (Nat.div_mul_le_self _ _)
 ·have h5:top < (d1+1)*B:=by
   rw [← rC];refine (Nat.div_lt_iff_lt_mul (eh _)).2 ?_;have:D*B≤(d1+1)*B ^ (n+1)*B:=Nat.mul_le_mul_right _ (Nat.le_of_lt dG);rw [Nat.mul_right_comm] at this;exact Nat.lt_of_lt_of_le hW this
  have h6:top / d1 < B+2:=by
   refine (Nat.div_lt_iff_lt_mul (by omega)).2 ?_
   rw [Nat.add_mul,Nat.mul_comm B d1];rw [Nat.add_mul] at h5;have:B=4294967296:=rfl;omega
  omega
 ·have e:B ^ (j+n2+1)=B ^ (n+2)*B ^ (j+1):=by rw [← Nat.pow_add]; congr 1; omega
  rw [e];exact Nat.lt_of_lt_of_le hX (Nat.mul_le_mul_right _ (Nat.le_of_lt hD))
structure aap (X D j n n2 top d1 d0 w0 Q q0:Nat):Prop where
 fW:X / B ^ j / B ^ n=top*B+w0
 fD:D / B ^ n=d1*B+d0
 fQ:Q=X / B ^ j / D
 fB:Q < 4294967296
 fP:B*B ^ n≤D
 fq:Q≤q0
 Rk:q0≤4294967297
 fX:X < B ^ (j+n2+1)
 AH:0 < D
theorem aaq {X D j n n1 n2 top d1 d0 w0 Q q0:Nat} (J:n2=nl D) (h0:n2=n+2) (h1:n1=n+1) (hd:2147483648≤ao D n1) (hX:X < D*B ^ (j+1))
  (ht:top=ao X (j+n2)*4294967296+ao X (j+n1)) (gg:d1=ao D n1) (fC:d0=ao D n) (hw:w0=ao X (j+n)) (hQ:Q=X / B ^ j / D) (m5:q0=top / d1):aap X D j n n2 top d1 d0 w0 Q q0:=by
 have yf:0 < D:=by
  rcases Nat.eq_zero_or_pos D with h | h
  ·rw [h,FF] at hd; omega
  ·exact h
 subst ht gg fC hw hQ m5;obtain ⟨a,b,c,d,e,f,g⟩:=SS J h0 h1 hd hX;exact ⟨a,b,rfl,c,d,e,f,g,yf⟩
theorem Wc {W D P d1 d0 q r w0 top:Nat} (hD:0 < D) (hP:0 < P) (hW:W / P=top*B+w0) (JD:D / P=d1*B+d0) (he:q*d1+r=top) (h:r*B+w0 < q*d0):W / D < q:=by
 refine UZ hD hP ?_;rw [hW,JD];exact Nat.lt_of_not_le fun hle=>Nat.not_le_of_lt h ((M4 he).1 hle)
theorem GG {W D P d1 d0 q r w0 top:Nat} (hP:0 < P) (hW:W / P=top*B+w0) (JD:D / P=d1*B+d0) (he:q*d1+r=top) (hq:q < B) (hK:B*P≤D) (fC:d0 < B) (h:B≤r∨q*d0≤r*B+w0):q≤W / D+1:=by
 refine TC hP ?_ (Nat.le_of_lt hq) hK;rw [hW,JD];refine (M4 he).2 ?_;rcases h with h | h
 ·have h1:q*d0≤B*B:=Nat.mul_le_mul (Nat.le_of_lt hq) (Nat.le_of_lt fC);have J:B*B≤r*B:=Nat.mul_le_mul_right _ h;omega
 ·exact h
theorem F9 (a b:Nat):Int.tdiv (a:Int) (b:Int)=((a / b:Nat):Int):=rfl
theorem M5 (a b:Nat):Int.tmod (a:Int) (b:Int)=((a % b:Nat):Int):=rfl
theorem ac0 {q x:Nat} (hq:q≤4294967297) (hx:x < 4294967296):IntKind.u64.wrap ((q:Int)*(x:Int))=((q*x:Nat):Int)∧q*x < 18446744073709551616:=by
 have h:=Nat.mul_le_mul hq (show x≤4294967295 by omega)
 have e:((q:Int)*(x:Int))=((q*x:Nat):Int):=by simp
 obtain ⟨p,hp⟩:∃ p,p=q*x:=⟨_,rfl⟩;rw [e,← hp];rw [← hp] at h;exact ⟨bL (by omega) (by omega),by omega⟩
theorem BW {c q x t:Nat} (hc:c < B) (hq:q < B) (hx:x < B) (ht:t=c+q*x):IntKind.u64.wrap ((c:Int)+IntKind.u64.wrap ((q:Int)*(x:Int)))=(t:Int)∧t / B < B:=by
 have hB:B=4294967296:=rfl;have h:=Nat.mul_le_mul (show q≤4294967295 by omega) (show x≤4294967295 by omega)
 have e:((q:Int)*(x:Int))=((q*x:Nat):Int):=by simp
 obtain ⟨p,hp⟩:∃ p,p=q*x:=⟨_,rfl⟩;rw [e,← hp];rw [← hp] at h ht;constructor
 ·rw [bL (x:=(p:Int)) (by omega) (by omega),bL (by omega) (by omega),ht]; omega
 ·refine (Nat.div_lt_iff_lt_mul (by decide)).2 ?_
  rw [hB,ht]; omega
open Go
def one (A ca:Nat):Value:=.slice (some ⟨0,0,none⟩) (nl A) ca
abbrev I1:=Nat × Nat × Nat
def CP:a9:={ ι:=I1,args:=fun i=>[one i.1 i.2.1,.int .u32 i.2.2],ae:=fun i=>[dN i.1],pre:=fun i=>nl i.1≤137438953472∧0 < i.2.2∧i.2.2 < 4294967296,val:=fun i=>.tuple ⟨[lg 1 (i.1 / i.2.2),.int .u32 (i.1 % i.2.2:Nat)]⟩,new:=fun i=>some (.flat true (nl i.1) 1 (bo (i.1 / i.2.2))) }
def CQ:a9:={ ι:=I1,args:=fun i=>[one i.1 i.2.1,.int .i64 i.2.2],ae:=fun i=>[dN i.1],pre:=fun i=>nl i.1≤137438953472∧i.2.2≤31,val:=fun i=>.slice (some ⟨1,0,none⟩) (nl i.1+1) (nl i.1+1),new:=fun i=>some (.flat true (nl i.1+1) 1 (bo (i.1*2 ^ i.2.2))) }
def BX:a9:={ ι:=I1,args:=fun i=>[one i.1 i.2.1,.int .i64 i.2.2],ae:=fun i=>[dN i.1],pre:=fun i=>nl i.1≤137438953472∧i.2.2≤31,val:=fun i=>lg 1 (i.1 / 2 ^ i.2.2),new:=fun i=>some (.flat true (nl i.1) 1 (bo (i.1 / 2 ^ i.2.2))) }
structure DI where
 (X m cx D cd j:Nat)
def xq:zD:={ ι:=DI,args:=fun i=>[.slice (some ⟨0,0,none⟩) i.m i.cx,.slice (some ⟨1,0,none⟩) (nl i.D) i.cd,.int .i64 i.j],ae:=fun i=>[.flat true i.m 1 (bo i.X),dN i.D],pre:=fun i=>i.m≤137438953473∧2≤nl i.D∧2147483648≤ao i.D (nl i.D - 1)∧i.j+nl i.D < i.m∧i.X < i.D*B ^ (i.j+1),val:=fun i=>.int .u32 (i.X / (i.D*B ^ i.j):Nat),post:=fun i=>[.flat true i.m 1 (bo (i.X % (i.D*B ^ i.j))),dN i.D],new:=fun _=>[] }
theorem rQ {i:DI} {N q:Nat} {H:aA} (h1:N=i.X % (i.D*B ^ i.j)) (J:q=i.X / (i.D*B ^ i.j)) (hH:H[0]?=some (some (.flat true i.m 1 (bo N)))):zT xq i (.int .u32 (q:Nat)) H:=by
 refine ⟨[],List.nodup_nil,by simp,rfl,fun j b q' hb hq ho=>?_,by simp,_,rfl,by subst J; exact .refl _⟩
 match j with
 | 0 =>
  simp [xq] at hb hq;subst hq;exact ⟨_,hH,rfl,by rw [h1]; exact ⟨fun _=>⟨rfl,rfl⟩,rfl,Nat.le_refl _,fun _ _=>rfl,fun r hr v hv=>dD (l:=bo _ r) rfl v hv⟩⟩
 | 1 =>
  simp [xq] at hb;subst hb;cases ho
 | j+2=>simp [xq] at hb
def gE:zD:={ ι:=I2,args:=fun i=>two i.1 i.2.1 i.2.2.1 i.2.2.2,ae:=fun i=>kE i.1 i.2.2.1,pre:=fun i=>y9 i∧i.2.2.1≠0,val:=fun i=>if i.1 < i.2.2.1 then .tuple ⟨[.slice none 0 0,one i.1 i.2.1]⟩ else .tuple ⟨[lg 2 (i.1 / i.2.2.1),lg 3 (i.1 % i.2.2.1)]⟩,post:=fun i=>kE i.1 i.2.2.1,new:=fun i=>if i.1 < i.2.2.1 then [] else [dN (i.1 / i.2.2.1),dN (i.1 % i.2.2.1)] }
open Go
theorem TE {D n s:Nat} (hn:nl D=n+1) (hs:s=32 - e9 (ao D n)) :
  s≤31∧ao D n≠0∧nl (D*2 ^ s)=n+1∧2147483648≤ao (D*2 ^ s) n∧2147483648*B ^ n≤D*2 ^ s:=by
 have yf:D≠0:=by intro h; rw [h,r4] at hn; omega
 have vg:ao D n≠0:=by have:=V0 yf; rw [hn] at this; exact this
 obtain ⟨x,hx⟩:∃ x,x=ao D n:=⟨_,rfl⟩;rw [← hx] at hs vg ⊢;have iA:x < 4294967296:=by rw [hx]; exact cK D n
 have hb:=M3 iA;have Ao:1≤e9 x:=by
  rcases Nat.eq_zero_or_pos (e9 x) with h | h
  ·have:=GF x; rw [h] at this; omega
  ·exact h
 have an:=b6 D;rw [hn] at an;have Rl:x=D / B ^ n:=by rw [hx]; exact yS an
 have h1:=Kk vg;have J:=GF x;have e:2 ^ (e9 x)*2 ^ s=4294967296:=by rw [← Nat.pow_add,show e9 x+s=32 by omega]
 have e2:2 ^ (e9 x - 1)*2 ^ s=2147483648:=by rw [← Nat.pow_add,show e9 x - 1+s=31 by omega]
 have hJ:2147483648*B ^ n≤D*2 ^ s:=by
  rw [← e2,Nat.mul_right_comm];refine Nat.mul_le_mul_right _ ?_;refine Nat.le_trans (Nat.mul_le_mul_right _ h1) ?_;rw [Rl]; exact Nat.div_mul_le_self _ _
 have jz:D*2 ^ s < B ^ (n+1):=by
  have h3:D < (x+1)*B ^ n:=by rw [Rl,Nat.mul_comm]; exact Nat.lt_mul_div_succ _ (eh n)
  have h4:D*2 ^ s < (x+1)*B ^ n*2 ^ s:=Nat.mul_lt_mul_of_pos_right h3 (Nat.pow_pos (by decide))
  have h5:(x+1)*B ^ n*2 ^ s≤2 ^ e9 x*B ^ n*2 ^ s:=Nat.mul_le_mul_right _ (Nat.mul_le_mul_right _ J);rw [Nat.mul_right_comm (2 ^ e9 x),e] at h5;have e3:B ^ (n+1)=4294967296*B ^ n:=by rw [Nat.pow_succ,Nat.mul_comm]
  rw [e3];exact Nat.lt_of_lt_of_le h4 h5
 have cG:nl (D*2 ^ s)=n+1:=by
  refine OJ jz (.inr ?_);rw [Nat.add_sub_cancel];refine Nat.le_trans ?_ hJ;exact Nat.le_mul_of_pos_left _ (by decide)
 refine ⟨by omega,vg,cG,?_,hJ⟩
 rw [yS jz];exact (Nat.le_div_iff_mul_le (eh n)).2 hJ
theorem SU {A s:Nat} (hs:s≤31):A*2 ^ s < B ^ (nl A)*2147483648:=by
 have h:=wQ hs;exact Nat.mul_lt_mul_of_lt_of_le (b6 A) h (by decide)
theorem U0 {A E n s k:Nat} (hs:s≤31) (hJ:2147483648*B ^ n≤E) (hk:k=nl A - n) (hle:n≤nl A):A*2 ^ s < E*B ^ k:=by
 refine Nat.lt_of_lt_of_le (SU hs) ?_;have e:B ^ nl A*2147483648=2147483648*B ^ n*B ^ k:=by
  rw [Nat.mul_assoc,← Nat.pow_add,show n+k=nl A by omega,Nat.mul_comm]
 rw [e];exact Nat.mul_le_mul_right _ hJ
theorem U1 {V E Q U i:Nat} (hE:0 < E) (h:Q*E+U=V) (hU:U < E*B ^ (i+1)) (hQ:Q % B ^ (i+1)=0) :
  U / (E*B ^ i) < B∧cH Q i (U / (E*B ^ i))*E+U % (E*B ^ i)=V∧U % (E*B ^ i) < E*B ^ i∧cH Q i (U / (E*B ^ i)) % B ^ i=0:=by
 have hP:0 < E*B ^ i:=Nat.mul_pos hE (eh i);have hd:U / (E*B ^ i) < B:=by
  refine (Nat.div_lt_iff_lt_mul hP).2 ?_;rw [Nat.mul_comm,Nat.mul_assoc,← Nat.pow_succ]; exact hU
 obtain ⟨K,hK⟩:∃ K,Q=K*B ^ (i+1):=⟨Q / B ^ (i+1),by rw [Nat.mul_comm]; have:=Nat.mod_add_div Q (B ^ (i+1)); rw [hQ,Nat.zero_add] at this; exact this.symm⟩
 have hl:ao Q i=0:=by rw [hK]; exact KE K i
 rw [EA hl];refine ⟨hd,?_,Nat.mod_lt _ hP,?_⟩
 ·rw [Nat.add_mul,← h,Nat.add_assoc]
  congr 1
  rw [Nat.mul_assoc,Nat.mul_comm (B ^ i) E,Nat.mul_comm];exact Nat.div_add_mod U (E*B ^ i)
 ·rw [hK,Nat.pow_succ,Nat.mul_comm (B ^ i) B,← Nat.mul_assoc,← Nat.add_mul];exact Nat.mul_mod_left _ _
theorem Wd {A D s Q U:Nat} (hD:0 < D) (h:Q*(D*2 ^ s)+U=A*2 ^ s) (hU:U < D*2 ^ s):Q=A / D∧U=A % D*2 ^ s∧U / 2 ^ s=A % D:=by
 have hs:0 < 2 ^ s:=Nat.pow_pos (by decide)
 have hE:0 < D*2 ^ s:=Nat.mul_pos hD hs;have h1:A*2 ^ s / (D*2 ^ s)=Q:=by
  rw [← h,Nat.mul_comm Q];rw [Nat.mul_add_div hE,Nat.div_eq_of_lt hU,Nat.add_zero]
 have J:A*2 ^ s % (D*2 ^ s)=U:=by
  rw [← h,Nat.mul_comm Q,Nat.mul_add_mod,Nat.mod_eq_of_lt hU]
 rw [Nat.mul_div_mul_right _ _ hs] at h1;rw [Nat.mul_mod_mul_right] at J;refine ⟨h1.symm,J.symm,?_⟩;rw [← J,Nat.mul_div_cancel _ hs]
theorem TF {N:Nat} (h:N < 4294967296):ao N 0=N:=by
 unfold ao;rw [Nat.pow_zero,Nat.div_one]; exact Nat.mod_eq_of_lt h
theorem aar {D:Nat} (h:nl D=1):ao D 0=D∧D < 4294967296∧0 < D:=by
 have h1:=b6 D;rw [h,Nat.pow_one] at h1;have h0:D≠0:=by intro e; rw [e,r4] at h; omega
 refine ⟨?_,h1,by omega⟩
 unfold ao;rw [Nat.pow_zero,Nat.div_one]; exact Nat.mod_eq_of_lt h1
theorem U2 {A ca D cd:Nat} {H:aA} (h:A < D):zT gE (A,ca,D,cd) (.tuple ⟨[.slice none 0 0,.slice (some ⟨0,0,none⟩) (nl A) ca]⟩) H:=by
 have e1:gE.val (A,ca,D,cd)=.tuple ⟨[.slice none 0 0,one A ca]⟩:=if_pos h;have e2:gE.new (A,ca,D,cd)=[]:=if_pos h;refine ⟨[],List.nodup_nil,by simp,by rw [e2]; rfl,fun j b q' hb hq ho=>?_,fun j p b hp=>by simp at hp,_,by rw [e1]; rfl,.refl _⟩
 match j with
 | 0=>simp [gE,kE] at hb; subst hb; cases ho
 | 1=>simp [gE,kE] at hb; subst hb; cases ho
 | j+2=>simp [gE,kE] at hb
theorem Mo {A ca D cd q r c1 c2:Nat} {H:aA} {b1 b2:aj} (h:D≤A) (hq:2≤q) (hr:2≤r) (vJ:q≠r)
  (h1:H[q]?=some (some b1)) (J:H[r]?=some (some b2)) (o1:b1.own=true) (o2:b2.own=true) (l1:aG (dN (A / D)) b1) (l2:aG (dN (A % D)) b2) :
  zT gE (A,ca,D,cd) (.tuple ⟨[.slice (some ⟨q,0,none⟩) (nl (A / D)) c1,.slice (some ⟨r,0,none⟩) (nl (A % D)) c2]⟩) H:=by
 have hn:¬ A < D:=by omega
 have e1:gE.val (A,ca,D,cd)=.tuple ⟨[lg 2 (A / D),lg 3 (A % D)]⟩:=if_neg hn;have e2:gE.new (A,ca,D,cd)=[dN (A / D),dN (A % D)]:=if_neg hn;refine ⟨[q,r],by simp [vJ],fun p hp=>?_,by rw [e2]; rfl,fun j b q' hb hq ho=>?_,fun j p b hp hb=>?_,_,by rw [e1]; rfl,.two (.cap _ _ _ rfl) (.cap _ _ _ rfl)⟩
 ·simp at hp;show 2≤p
  omega
 ·match j with
  | 0=>simp [gE,kE] at hb; subst hb; cases ho
  | 1=>simp [gE,kE] at hb; subst hb; cases ho
  | j+2=>simp [gE,kE] at hb
 ·rw [e2] at hb
  match j with
  | 0=>simp at hp hb; subst hp hb; exact ⟨b1,h1,o1,l1⟩
  | 1=>simp at hp hb; subst hp hb; exact ⟨b2,J,o2,l2⟩
  | j+2=>simp at hb
theorem Mp {x n:Nat} (hx:x < 4294967296) (hn:n≤1):aG (.flat false n 1 (bo x)) (.aO true 1 [[.int .u32 (x:Nat)]]):=by
 refine ⟨(fun h=>by cases h),rfl,hn,fun r hr=>?_,fun r hr v hv=>dD (l:=bo x r) rfl v hv⟩
 have h0:r=0:=by
  have:r < n:=hr;omega
 subst h0;show [Value.int .u32 (ao x 0:Nat)]=[Value.int .u32 (x:Nat)]
 rw [TF hx]
open Go
def a8 (b:Bool) (N:Nat):Int:=if b then -(N:Int) else N
def lZ (b:Bool) (N:Nat):Value:=.agg ⟨[.bool (b && N != 0),.string (nb N)]⟩
def aH (z:Int):Value:=.agg ⟨[.bool (decide (z < 0)),.string (nb z.natAbs)]⟩
theorem jq (b:Bool) (N:Nat):lZ b N=aH (a8 b N):=by
 unfold lZ aH a8;cases b
 ·simp
 ·by_cases h:N=0
  ·subst h; simp
  ·have e:(N != 0)=true:=by simp [h]
   simp [e];omega
theorem We (b c:Bool) (M N:Nat):a8 (b != c) (M*N)=a8 b M*a8 c N:=by
 cases b <;> cases c <;> simp [a8,Int.neg_mul,Int.mul_neg]
theorem Ga (b:Bool) (N:Nat):a8 (!b) N=-a8 b N:=by cases b <;> simp [a8]
theorem Mq (b:Bool) (M N:Nat):a8 b (M+N)=a8 b M+a8 b N:=by cases b <;> simp [a8] <;> omega
theorem BG {b c:Bool} (h:b≠c) {M N:Nat} (hle:N≤M):a8 b (M - N)=a8 b M+a8 c N:=by
 cases b <;> cases c <;> simp [a8] at h ⊢ <;> omega
theorem ug (b:Bool) (N:Nat):(a8 b N).natAbs=N:=by cases b <;> simp [a8]
theorem FI {b:Bool} {N:Nat}:a8 b N=0↔N=0:=by cases b <;> simp [a8]
def dO (x y:Int):Int:=if x < y then -1 else if y < x then 1 else 0
theorem BY (M N:Nat):dO (M:Int) (N:Int)=cP M N:=by
 unfold dO cP
 split <;> split <;> (try split) <;> (try split) <;> omega
theorem M6 (M N:Nat):dO (-(M:Int)) (-(N:Int))=cP N M:=by
 unfold dO cP
 split <;> split <;> (try split) <;> (try split) <;> omega
theorem U3 (A D:Nat):nl (A*D)≤nl A+nl D:=jN (by
 rw [Nat.pow_add];exact Nat.mul_lt_mul_of_lt_of_le (b6 A) (Nat.le_of_lt (b6 D)) (eh _))
theorem Mr (A D:Nat):nl (A+D)≤max (nl A) (nl D)+1:=jN (by
 have h1:=Nat.lt_of_lt_of_le (b6 A) (Nat.pow_le_pow_right (show 0 < B by decide) (Nat.le_max_left (nl A) (nl D)))
 have J:=Nat.lt_of_lt_of_le (b6 D) (Nat.pow_le_pow_right (show 0 < B by decide) (Nat.le_max_right (nl A) (nl D)))
 have e:B ^ (max (nl A) (nl D)+1)=B ^ (max (nl A) (nl D))*4294967296:=rfl;rw [e];generalize B ^ (max (nl A) (nl D))=K at *;omega)
theorem OL {N:Nat} (h:N < 18446744073709551616):N < 4294967296 ^ 2:=Nat.lt_of_lt_of_le h (by decide)
theorem M7 {N:Nat} (h:N < 18446744073709551616):ao N 0=N % 4294967296∧ao N 1=N / 4294967296:=by
 unfold ao;rw [Nat.pow_zero,Nat.div_one,Nat.pow_one];exact ⟨rfl,Nat.mod_eq_of_lt (show N / 4294967296 < 4294967296 by omega)⟩
theorem NW {N x:Nat} (h:N < 36028797018963968) (hx:x < 256):IntKind.i64.wrap ((BitVec.ofInt IntKind.i64.bits (IntKind.i64.wrap ((N:Int)*256)) ||| BitVec.ofInt IntKind.i64.bits (IntKind.i64.wrap (x:Int))).toNat:Int)=((N*256+x:Nat):Int):=by
 rw [ax (x:=(N:Int)*256) (by omega) (by omega),ax (x:=(x:Int)) (by omega) (by omega),dK N x h hx]
 omega
theorem M8 {N:Nat} (h:N < 18446744073709551616):aG (.flat false 2 1 (bo N)) (.aO true 1 [[.int .u32 (IntKind.u32.wrap (N:Int))],[.int .u32 (IntKind.u32.wrap ((N:Int).fdiv (2 ^ min (Int.toNat 32) IntKind.u64.bits)))]]):=by
 obtain ⟨h1,J⟩:=M7 h;refine ⟨(fun h=>by cases h),rfl,Nat.le_refl _,fun r hr=>?_,fun r hr v hv=>dD (l:=bo N r) rfl v hv⟩
 have hr:r < 2:=hr
 match r,hr with
 | 0,_ =>
  show [Value.int .u32 (ao N 0:Nat)]=[Value.int .u32 (IntKind.u32.wrap (N:Int))]
  rw [h1,wN]; rfl
 | 1,_ =>
  show [Value.int .u32 (ao N 1:Nat)]=[Value.int .u32 (IntKind.u32.wrap ((N:Int).fdiv (2 ^ min (Int.toNat 32) IntKind.u64.bits)))]
  rw [J,cl,di (by omega) (by omega)]; rfl
theorem ux {x y:Int} (h:x < y):dO x y=-1:=if_pos h
theorem uy {x y:Int} (h:y < x):dO x y=1:=by
 unfold dO;rw [if_neg (by omega),if_pos h]
theorem Xy {N:Nat} (h:((nl N:Nat):Int) > 0):0 < N:=by
 rcases Nat.eq_zero_or_pos N with h0 | h0
 ·rw [h0,r4] at h; exact absurd h (by decide)
 ·exact h0
theorem TG {N:Nat} (h:¬ ((nl N:Nat):Int) > 0):N=0:=Lt (by omega)
theorem w9 {N:Nat} (h:0 < N):decide (((nl N:Nat):Int) > 0)=true:=decide_eq_true (by have:=y6 (show N≠0 by omega); omega)
theorem wR {N:Nat} (h:N=0):decide (((nl N:Nat):Int) > 0)=false:=by rw [h,r4]; rfl
theorem Dz {i:Nat} (h:i≤6):C ^ i≤281474976710656:=Nat.le_trans (Nat.pow_le_pow_right (by decide) h) (by decide)
theorem oo {i:Nat} (h:i≤7):C ^ i≤72057594037927936:=Nat.le_trans (Nat.pow_le_pow_right (by decide) h) (by decide)
theorem wE:aH 0=.agg ⟨[.bool false,.string ⟨#[]⟩]⟩:=by unfold aH; rw [Int.natAbs_zero,qj]; rfl
theorem Bb {x y q r:Int} (hy:0 < y) (h:r+y*q=x) (h0:0≤r) (h1:r < y):x.fdiv y=q∧x.fmod y=r:=by
 have:=(Int.ediv_emod_unique hy).2 ⟨h,h0,h1⟩;rw [Int.fdiv_eq_ediv_of_nonneg _ (Int.le_of_lt hy),Int.fmod_eq_emod_of_nonneg _ (Int.le_of_lt hy)];exact this
theorem Ey {x y q r:Int} (hy:y < 0) (h:r+y*q=x) (h0:r≤0) (h1:y < r):x.fdiv y=q∧x.fmod y=r:=by
 have J:=Bb (x:=-x) (y:=-y) (q:=q) (r:=-r) (by omega) (by rw [← h,Int.neg_mul]; omega) (by omega) (by omega)
 rw [Int.neg_fdiv_neg] at J;refine ⟨J.1,?_⟩;rw [Int.fmod_def,J.1,← h];omega
theorem wF {b c:Bool} {A D:Nat} (hD:0 < D) (h:A % D=0∨b=c):(a8 b A).fdiv (a8 c D)=a8 (b != c) (A / D)∧(a8 b A).fmod (a8 c D)=a8 b (A % D):=by
 have hm:=Nat.mod_lt A hD;have he:((A % D:Nat):Int)+(D:Int)*((A / D:Nat):Int)=(A:Int):=by
  have:=Nat.mod_add_div A D;have J:=congrArg (fun n:Nat=>(n:Int)) this
  simpa using J
 cases b <;> cases c
 ·exact Bb (by simp [a8]; omega) (by simpa [a8] using he) (by simp [a8]; omega) (by simp only [a8,Bool.false_eq_true,if_false]; omega)
 ·have h:A % D=0:=h.resolve_right (by simp)
  refine Ey (by simp [a8]; omega) ?_ (by simp [a8,h]) (by simp [a8,h]; omega)
  rw [h] at he ⊢;simp only [a8,Bool.false_eq_true,if_false,if_true,bne,Bool.not_false,show ((false == true)=false) from rfl,Int.neg_mul_neg]
  exact he
 ·have h:A % D=0:=h.resolve_right (by simp)
  refine Bb (by simp [a8]; omega) ?_ (by simp [a8,h]) (by simp [a8,h]; omega)
  rw [h] at he ⊢;simp only [a8,Bool.false_eq_true,if_false,if_true,bne,Bool.not_false,show ((true == false)=false) from rfl,Int.mul_neg]
  omega
 ·refine Ey (by simp [a8]; omega) ?_ (by simp only [a8,if_true]; omega) (by simp only [a8,if_true]; omega)
  simp only [a8,if_true,bne,Bool.not_true,show ((true == true)=true) from rfl,Bool.false_eq_true,if_false,Int.neg_mul]
  omega
theorem Fg {b c:Bool} {A D:Nat} (hD:0 < D) (h:A % D≠0) (pQ:b≠c):(a8 b A).fdiv (a8 c D)=a8 (b != c) (A / D) - 1∧(a8 b A).fmod (a8 c D)=a8 b (A % D)+a8 c D:=by
 have hm:=Nat.mod_lt A hD;have he:((A % D:Nat):Int)+(D:Int)*((A / D:Nat):Int)=(A:Int):=by
  have:=Nat.mod_add_div A D;have J:=congrArg (fun n:Nat=>(n:Int)) this
  simpa using J
 cases b <;> cases c
 ·exact absurd rfl pQ
 ·refine Ey (by simp [a8]; omega) ?_ (by simp only [a8,Bool.false_eq_true,if_false,if_true]; omega) (by simp only [a8,Bool.false_eq_true,if_false,if_true]; omega)
  simp only [a8,Bool.false_eq_true,if_false,if_true,bne,Bool.not_false,show ((false == true)=false) from rfl,Int.mul_sub,Int.neg_mul_neg,Int.mul_one]
  omega
 ·refine Bb (by simp [a8]; omega) ?_ (by simp only [a8,Bool.false_eq_true,if_false,if_true]; omega) (by simp only [a8,Bool.false_eq_true,if_false,if_true]; omega)
  simp only [a8,Bool.false_eq_true,if_false,if_true,bne,Bool.not_false,show ((true == false)=false) from rfl,Int.mul_sub,Int.mul_neg,Int.mul_one]
  omega
 ·exact absurd rfl pQ
theorem wS {N:Nat} (h:N=0):(!(nb N).toList == (⟨#[]⟩:ByteArray).toList)=false:=by rw [qC,h,qj]; simp
theorem xc {N:Nat} (h:N≠0):(!(nb N).toList == (⟨#[]⟩:ByteArray).toList)=true:=by
 rw [qC];have:nb N≠⟨#[]⟩:=fun e=>h (KC.1 e)
 simp [this]
abbrev IV:=Bool × ByteArray
def IV.v (i:IV):Value:=.agg ⟨[.bool i.1,.string i.2]⟩
def IV.z (i:IV):Int:=a8 i.1 (ab i.2)
def IV.ok (i:IV):Prop:=i.2.size≤549755813888
theorem IV.nl {i:IV} (h:i.ok):nl (ab i.2)≤137438953472:=by
 rw [OK];have:=jm i.2;have h:i.2.size≤549755813888:=h;omega
theorem CS (b:Bool) (N:Nat):IV.z (b && N != 0,nb N)=a8 b N:=by
 show a8 _ (ab (nb N))=_
 rw [ik];cases b
 ·rfl
 ·by_cases h:N=0
  ·subst h; rfl
  ·have e:(N != 0)=true:=by simp [h]
   rw [e]; rfl
theorem Bv {N:Nat} {s:ByteArray} (h:N≤ab s):(nb N).size≤s.size:=by
 rw [gD];exact Nat.le_trans (iV h) (jm s)
theorem Hb:(nb 1).size≤1:=by rw [gD]; exact gN (by decide)
theorem OM (z:Int):IV.z (decide (z < 0),nb z.natAbs)=z:=by
 show a8 _ (ab (nb z.natAbs))=z
 rw [ik];unfold a8;by_cases h:z < 0
 ·simp [h]; omega
 ·simp [h]; omega
theorem GH {i:IV} (h:i.2.size≤7):-72057594037927936 < i.z∧i.z < 72057594037927936:=by
 have h1:=Nat.lt_of_lt_of_le (gq i.2) (oo h);unfold IV.z a8
 split <;> omega
def eX:bE:={ ι:=Int,args:=fun n=>[.int .i64 n],pre:=fun n=>-9223372036854775808≤n∧n < 9223372036854775808,val:=fun n=>aH n }
def xd:bE:={ ι:=IV,args:=fun i=>[i.v],pre:=IV.ok,val:=fun i=>.tuple ⟨[.int .i64 (if i.2.size≤7 then i.z else 0),.bool (decide (i.2.size≤7))]⟩ }
def gY:bE:={ ι:=IV,args:=fun i=>[i.v],pre:=IV.ok,val:=fun i=>aH (-i.z) }
abbrev kM:=IV × IV
def kM.ok (i:kM):Prop:=i.1.ok∧i.2.ok
def jg:bE:={ ι:=kM,args:=fun i=>[i.1.v,i.2.v],pre:=kM.ok,val:=fun i=>aH (i.1.z+i.2.z) }
def mT:bE:={ ι:=kM,args:=fun i=>[i.1.v,i.2.v],pre:=kM.ok,val:=fun i=>aH (i.1.z - i.2.z) }
def fk:bE:={ ι:=kM,args:=fun i=>[i.1.v,i.2.v],pre:=kM.ok,val:=fun i=>aH (i.1.z*i.2.z) }
def l6:bE:={ ι:=kM,args:=fun i=>[i.1.v,i.2.v],pre:=kM.ok,val:=fun i=>.int .i64 (dO i.1.z i.2.z) }
def vh:bE:={ ι:=kM,args:=fun i=>[i.1.v,i.2.v],pre:=kM.ok,val:=fun i=>aH (Int.gcd i.1.z i.2.z:Nat) }
def iN:bE:={ ι:=kM,args:=fun i=>[i.1.v,i.2.v],pre:=kM.ok,val:=fun i=>.tuple ⟨[aH (i.1.z.fdiv i.2.z),aH (if i.2.z=0 then 0 else i.1.z.fmod i.2.z),.int .i64 (if i.2.z=0 then 10 else 0)]⟩ }
theorem yJ {s:ByteArray} {i:Nat} (h:i < s.size):ab s / C ^ (s.size - (i+1))=ab s / C ^ (s.size - i)*256+b8 s i:=by
 rw [tY h,show s.size - 1 - i=s.size - (i+1) by omega]
 have e:C ^ (s.size - i)=C ^ (s.size - (i+1))*C:=by rw [← Nat.pow_succ]; congr 1; omega
 rw [e,← Nat.div_div_eq_div_mul,Nat.mul_comm];exact (Nat.div_add_mod _ C).symm
theorem CT (s:ByteArray) {i:Nat} (h:i≤s.size):ab s / C ^ (s.size - i) < C ^ i:=by
 refine (Nat.div_lt_iff_lt_mul (gX _)).2 ?_;rw [← Nat.pow_add,show i+(s.size - i)=s.size by omega]
 exact gq s
open Go
def js:bE:={ ι:=IV,args:=fun i=>[i.v],pre:=IV.ok,val:=fun i=>aH i.z }
def ki:bE:={ ι:=ByteArray,args:=fun s=>[.string s],pre:=fun s=>s.size≤7,val:=fun s=>.int .i64 (ab s:Nat) }
def xr:bE:={ ι:=IV,args:=fun i=>[i.v],pre:=fun i=>i.2.size≤7,val:=fun i=>.int .i64 i.z }
def IA:bE:={ ι:=Nat,args:=fun n=>[.int .i64 n],pre:=fun n=>n < 9223372036854775808,val:=fun n=>.string (nb n) }
def r8:bE:={ ι:=Nat × Nat,args:=fun i=>[.string (nb i.1),.string (nb i.2)],pre:=fun i=>aQ i.1≤1099511627776∧aQ i.2≤1099511627776,val:=fun i=>.int .i64 (cP i.1 i.2) }
theorem drop_zero {u:ByteArray} (h1:u.size≠0) (J:b8 u 0=0):ab (u.extract 1 u.size)=ab u∧(u.extract 1 u.size).size=u.size - 1:=by
 have h3:=tY (s:=u) (i:=0) (by omega)
 have h4:=gq u;refine ⟨?_,EE (by omega) (Nat.le_refl _)⟩
 rw [EJ (by omega) (Nat.le_refl _),Nat.sub_self,Nat.pow_zero,Nat.div_one]
 refine Nat.mod_eq_of_lt ?_;rw [J,Nat.sub_zero] at h3;have h5:ab u / C ^ (u.size - 1) < C:=(Nat.div_lt_iff_lt_mul (gX _)).2 (by
  rw [Nat.mul_comm,← Nat.pow_succ,show (u.size - 1).succ=u.size by omega]; exact h4)
 rw [Nat.mod_eq_of_lt h5] at h3;rcases Nat.lt_or_ge (ab u) (C ^ (u.size - 1)) with h6 | h6
 ·exact h6
 ·have:=Nat.div_pos h6 (gX _);omega
theorem M9 {N x:Nat} (h:N < 36028797018963968) (hx:x < 256):IntKind.i64.wrap ((BitVec.ofInt IntKind.i64.bits (IntKind.i64.wrap ((N:Int)*2 ^ min (Int.toNat 8) IntKind.i64.bits)) ||| BitVec.ofInt IntKind.i64.bits (IntKind.i64.wrap (x:Int))).toNat:Int)=((N*256+x:Nat):Int):=NW h hx
theorem qD (t:Nat):IntKind.u8.wrap (t:Int)=((t % C:Nat):Int):=by rw [lI]; rfl
theorem EK {g:Nat→List Value} {i m X:Nat} (h:∀ r,r < m→g (i+r)=[.int .u8 ((X / C ^ (m - 1 - r) % C:Nat):Int)]):(⟨⟨bytesOf g i m⟩⟩:ByteArray)=be m X:=by
 have e:bytesOf g i m=bytesOf (fun r=>g (i+r)) 0 m:=by
  unfold bytesOf;simp only [Nat.zero_add]
 rw [e];exact wq h
theorem xG {N n:Nat} (h:N < C ^ n) (J:n=0∨C ^ (n - 1)≤N):nb N=be n N:=by
 unfold nb;rw [OH h J]
theorem U4 {b:Bool} {s:ByteArray} (h:0 < s.size) (J:b8 s 0≠0):Value.agg ⟨[.bool b,.string s]⟩=aH (IV.z (b,s)):=by
 have h3:=y7 (s:=s) (.inr J);have h4:ab s≠0:=by
  intro e;rw [e,qj] at h3;rw [h3] at h;exact absurd h (by decide)
 have e:=jq b (ab s);unfold lZ at e;rw [← h3] at e;have e1:(ab s != 0)=true:=by simp [h4]
 rw [e1,Bool.and_true] at e;exact e
theorem Qg {n:Nat} (h:n < 9223372036854775808):n / C ^ 8=0:=Nat.div_eq_of_lt (Nat.lt_of_lt_of_le h (by decide))
theorem Ms {A D:Nat} (h:(nb A).size < (nb D).size):A < D:=by
 rw [gD,gD] at h;exact Sn h
theorem U5 {A D:Nat} (h:(nb A).size=(nb D).size):Op.bytesLess (nb A).toList (nb D).toList=decide (A < D):=by
 rw [V4 h,ik,ik]
theorem U6 {A D:Nat}:((nb A).toList == (nb D).toList)=decide (A=D):=by
 rw [qC];by_cases h:A=D
 ·subst h; simp
 ·have:nb A≠nb D:=fun e=>h (OI e)
  simp [this,h]
theorem Gb (N:Nat):(!(nb N).toList == (⟨#[]⟩:ByteArray).toList)=(N != 0):=by
 by_cases h:N=0
 ·rw [wS h,h]; rfl
 ·rw [xc h]; simp [h]
theorem EL (n k:Nat):n / C ^ k / 256=n / C ^ (k+1):=by rw [Nat.div_div_eq_div_mul,← Nat.pow_succ]
open Go
def bW (N i:Nat):Nat:=N / C ^ i % C
theorem qE (N i:Nat):bW N i < C:=Nat.mod_lt _ (by decide)
def kj (Y j d:Nat):Nat:=Y % C ^ j+C ^ j*(d+C*(Y / C ^ (j+1)))
theorem Fh (Y j:Nat):Y=Y % C ^ j+C ^ j*(bW Y j+C*(Y / C ^ (j+1))):=by
 have h1:=Nat.mod_add_div Y (C ^ j);have J:=Nat.mod_add_div (Y / C ^ j) C;rw [Nat.div_div_eq_div_mul,← Nat.pow_succ] at J;unfold bW;rw [J,h1]
theorem Lz (Y j d:Nat):kj Y j d+bW Y j*C ^ j=Y+d*C ^ j:=by
 have h:=Fh Y j;unfold kj;rw [Nat.mul_add] at h ⊢;have e1:C ^ j*bW Y j=bW Y j*C ^ j:=Nat.mul_comm _ _;have e2:C ^ j*d=d*C ^ j:=Nat.mul_comm _ _;omega
theorem NX {Y j d:Nat} (hd:d < C) (r:Nat):bW (kj Y j d) r=if r=j then d else bW Y r:=by
 have ha:Y % C ^ j < C ^ j:=Nat.mod_lt _ (gX j);rcases Nat.lt_trichotomy r j with h | h | h
 ·rw [if_neg (by omega)]
  have key:∀ K,bW (Y % C ^ j+C ^ j*K) r=bW (Y % C ^ j) r:=by
   intro K;unfold bW;have e:C ^ j*K=C ^ r*(C*(C ^ (j - r - 1)*K)):=by
    rw [← Nat.mul_assoc,← Nat.mul_assoc,← Nat.pow_succ,← Nat.pow_add,show r+1+(j - r - 1)=j by omega]
   rw [e,Nat.add_mul_div_left _ _ (gX r),Nat.add_mul_mod_self_left]
  have h1:=key (d+C*(Y / C ^ (j+1)));have J:=key (bW Y j+C*(Y / C ^ (j+1)));rw [← Fh Y j] at J;unfold kj;rw [h1,J]
 ·subst h;rw [if_pos rfl];unfold kj bW;rw [oX ha,Nat.add_mul_mod_self_left,Nat.mod_eq_of_lt hd]
 ·rw [if_neg (by omega)]
  have key:∀ d',d' < C→bW (Y % C ^ j+C ^ j*(d'+C*(Y / C ^ (j+1)))) r=Y / C ^ (j+1) / C ^ (r - j - 1) % C:=by
   intro d' cX;unfold bW;have e:C ^ r=C ^ j*(C*C ^ (r - j - 1)):=by
    rw [← Nat.mul_assoc,← Nat.pow_succ,← Nat.pow_add,show j+1+(r - j - 1)=r by omega]
   rw [e,← Nat.div_div_eq_div_mul,oX ha,← Nat.div_div_eq_div_mul,oX cX]
  have h1:=key d hd;have J:=key (bW Y j) (qE Y j);rw [← Fh Y j] at J;unfold kj;rw [h1,J]
theorem Wf (r:Nat):bW 0 r=0:=by simp [bW]
theorem GI {N n:Nat} (h:N < C ^ n) {r:Nat} (hr:n≤r):bW N r=0:=by
 unfold bW;have:C ^ n≤C ^ r:=Nat.pow_le_pow_right (by decide) hr
 rw [Nat.div_eq_of_lt (by omega)]; rfl
theorem wG (N i:Nat):N % C ^ (i+1)=N % C ^ i+bW N i*C ^ i:=by
 unfold bW;rw [Nat.pow_succ,Nat.mod_mul];rw [Nat.mul_comm (C ^ i)]
theorem LA {Y i d:Nat} (hY:Y < C ^ i):kj Y i d=Y+d*C ^ i:=by
 have h:=Lz Y i d;rw [GI hY (Nat.le_refl _),Nat.zero_mul,Nat.add_zero] at h;exact h
theorem Mt {Z j d m:Nat} (hZ:Z < C ^ m) (hj:j < m) (hd:d < C):kj Z j d < C ^ m:=by
 have h1:(kj Z j d) / C ^ m=0:=by
  have e:C ^ m=C ^ j*(C*C ^ (m - j - 1)):=by
   rw [← Nat.mul_assoc,← Nat.pow_succ,← Nat.pow_add,show j+1+(m - j - 1)=m by omega]
  have ha:Z % C ^ j < C ^ j:=Nat.mod_lt _ (gX j);unfold kj;rw [e,← Nat.div_div_eq_div_mul,oX ha,← Nat.div_div_eq_div_mul,oX hd,Nat.div_div_eq_div_mul,← Nat.pow_add,show j+1+(m - j - 1)=m by omega]
  exact Nat.div_eq_of_lt hZ
 rcases Nat.lt_or_ge (kj Z j d) (C ^ m) with h | h
 ·exact h
 ·have:=Nat.div_pos h (gX m);omega
theorem SV {Z c x D i k t Y:Nat} (he:Z+c*C ^ (i+k)=Y+x*(D % C ^ k)*C ^ i) (ht:t=c+(x*bW D k+bW Z (i+k))) :
  kj Z (i+k) (t % C)+t / C*C ^ (i+(k+1))=Y+x*(D % C ^ (k+1))*C ^ i:=by
 have hs:=Lz Z (i+k) (t % C);rw [wG D k,← Nat.add_assoc,Nat.pow_succ];rw [Nat.pow_add] at he hs ⊢;exact KX he hs ht
theorem TH {A D Y Z c i n:Nat} (hY:Y=A % C ^ i*D) (hD:D < C ^ n) (hZ:Z < C ^ (i+n)) (he:Z+c*C ^ (i+n)=Y+bW A i*(D % C ^ n)*C ^ i) :
  kj Z (i+n) c=A % C ^ (i+1)*D:=by
 rw [LA hZ,he,Nat.mod_eq_of_lt hD,hY,wG,Nat.add_mul,Nat.mul_assoc (bW A i),Nat.mul_comm D,← Nat.mul_assoc]
open Go
abbrev S2:=ByteArray × ByteArray
def S2.ok (i:S2):Prop:=i.1.size≤549755813896∧i.2.size≤549755813896
def xe:bE:={ ι:=S2,args:=fun i=>[.string i.1,.string i.2],pre:=S2.ok,val:=fun i=>.string (nb (ab i.1+ab i.2)) }
def r9:bE:={ ι:=S2,args:=fun i=>[.string i.1,.string i.2],pre:=fun i=>S2.ok i∧ab i.2≤ab i.1,val:=fun i=>.string (nb (ab i.1 - ab i.2)) }
def GJ:bE:={ ι:=S2,args:=fun i=>[.string i.1,.string i.2],pre:=fun i=>i.1.size≤549755813888∧i.2.size≤549755813888,val:=fun i=>.string (nb (ab i.1*ab i.2)) }
def qk:bE:={ ι:=ByteArray × Nat,args:=fun i=>[.string i.1,.string (nb i.2)],pre:=fun i=>i.1.size≤549755813888∧aQ i.2≤549755813888∧i.2≠0,val:=fun i=>.tuple ⟨[.string (nb (ab i.1 / i.2)),.string (nb (ab i.1 % i.2))]⟩ }
theorem tT {s:ByteArray} {j:Nat} (h:j < s.size):b8 s (s.size - (j+1))=bW (ab s) j:=by
 rw [tY (by omega),show s.size - 1 - (s.size - (j+1))=j by omega]
 rfl
theorem BZ {s:ByteArray} {j:Nat} (h:s.size≤j):bW (ab s) j=0:=GI (gq s) h
def nj (g:Nat→List Value) (n j Y:Nat):Prop:=(∀ r,r < n→∃ x:Int,g r=[.int .u8 x])∧∀ r,n - j≤r→r < n→g r=[.int .u8 ((bW Y (n - 1 - r):Nat):Int)]
theorem Kl (n:Nat):nj (fun _=>[.int .u8 0]) n 0 0:=⟨fun r _=>⟨0,rfl⟩,fun r h1 J=>absurd h1 (by omega)⟩
theorem Kp {g:Nat→List Value} {n j Y d:Nat} (h:nj g n j Y) (hj:j < n) (hY:Y < C ^ j) (hd:d < C) :
  nj (fun r=>if r=n - (j+1) then [.int .u8 (d:Nat)] else g r) n (j+1) (Y+d*C ^ j):=by
 refine ⟨fun r hr=>?_,fun r h1 J=>?_⟩
 ·by_cases e:r=n - (j+1)
  ·exact ⟨_,if_pos e⟩
  ·simp only [if_neg e]; exact h.1 r hr
 ·rw [← LA hY,NX hd];by_cases e:r=n - (j+1)
  ·simp only [if_pos e];rw [if_pos (by omega)]
  ·simp only [if_neg e];rw [if_neg (by omega)]
   exact h.2 r (by omega) J
theorem KF {g:Nat→List Value} {n Y:Nat} (h:nj g n n Y):(⟨⟨bytesOf g 0 n⟩⟩:ByteArray)=be n Y:=wq fun r hr=>by
 rw [h.2 r (by omega) hr]
 rfl
theorem TJ {X D Y c i t:Nat} (he:Y+c*C ^ i=X % C ^ i+D % C ^ i) (ht:t=c+bW X i+bW D i) :
  Y+t % C*C ^ i+t / C*C ^ (i+1)=X % C ^ (i+1)+D % C ^ (i+1):=by
 rw [wG X i,wG D i,Nat.pow_succ];exact Lv he ht
theorem KZ {Y d i:Nat} (hY:Y < C ^ i) (hd:d < C):Y+d*C ^ i < C ^ (i+1):=by
 have h:(d+1)*C ^ i≤C*C ^ i:=Nat.mul_le_mul_right _ hd;rw [Nat.pow_succ,Nat.mul_comm (C ^ i) C];rw [Nat.add_mul] at h;omega
theorem Xz {A D Y c n p q:Nat} (hA:A < C ^ p) (hD:D < C ^ q) (hn:p < n∧q < n) (hY:Y < C ^ n) (he:Y+c*C ^ n=A % C ^ n+D % C ^ n):Y=A+D:=by
 have h1:A < C ^ (n - 1):=Nat.lt_of_lt_of_le hA (Nat.pow_le_pow_right (by decide) (by omega))
 have J:D < C ^ (n - 1):=Nat.lt_of_lt_of_le hD (Nat.pow_le_pow_right (by decide) (by omega))
 have e:C ^ n=C ^ (n - 1)*256:=by rw [← Nat.pow_succ]; congr 1; omega
 have h3:A < C ^ n:=by omega
 have h4:D < C ^ n:=by omega
 rw [Nat.mod_eq_of_lt h3,Nat.mod_eq_of_lt h4] at he;have hc:c=0:=by
  rcases Nat.eq_zero_or_pos c with h | h
  ·exact h
  ·have:1*C ^ n≤c*C ^ n:=Nat.mul_le_mul_right _ h;omega
 subst hc;omega
theorem Co {n Y:Nat} (h:Y < C ^ n):nb (ab (be n Y))=nb Y:=by rw [GC,Nat.mod_eq_of_lt h]
structure za (A D j Y c:Nat):Prop where
 lt:Y < C ^ j
 eq:Y+c*C ^ j=A % C ^ j+D % C ^ j
theorem Sp (A D:Nat):za A D 0 0 0:=⟨by decide,by simp [Nat.mod_one]⟩
theorem SW {A D j Y c t n:Nat} {g:Nat→List Value} (h:za A D j Y c) (hg:nj g n j Y) (hj:j < n) (ht:t=c+bW A j+bW D j) :
  ∃ Y',za A D (j+1) Y' (t / C)∧nj (fun r=>if r=n - (j+1) then [.int .u8 (t % C:Nat)] else g r) n (j+1) Y' :=
 have fI:t % C < C:=Nat.mod_lt _ (by decide)
 ⟨Y+t % C*C ^ j,⟨KZ h.lt fI,TJ h.eq ht⟩,Kp hg hj h.lt fI⟩
theorem TL {s t:ByteArray} {Y c n:Nat} {g:Nat→List Value} (h:za (ab s) (ab t) n Y c) (hg:nj g n n Y) (hn:s.size < n∧t.size < n) :
  ∃ v:ByteArray,(⟨⟨bytesOf g 0 n⟩⟩:ByteArray)=v∧v.size=n∧nb (ab v)=nb (ab s+ab t) :=
 ⟨be n Y,KF hg,w8 _ _,by rw [Co h.lt,Xz (gq s) (gq t) hn h.lt h.eq]⟩
theorem Gc {n:Int} (h:n < 0) (J:-9223372036854775808≤n):IntKind.i64.wrap (0 - n)=if n=-9223372036854775808 then n else -n:=by
 split
 ·rename_i e; subst e; decide
 ·rw [ax (by omega) (by omega)]; omega
theorem aas:nb 9223372036854775808=⟨#[128,0,0,0,0,0,0,0]⟩:=by
 rw [xG (n:=8) (by decide) (.inr (by decide))]
 rfl
theorem Wg:aH (-9223372036854775808)=.agg ⟨[.bool true,.string ⟨#[128,0,0,0,0,0,0,0]⟩]⟩:=by
 rw [← aas]; rfl
theorem wg {n:Int} (h:n < 0):aH n=.agg ⟨[.bool true,.string (nb n.natAbs)]⟩:=by
 unfold aH;rw [decide_eq_true h]
theorem wh {n:Int} (h:0≤n):aH n=.agg ⟨[.bool false,.string (nb n.natAbs)]⟩:=by
 unfold aH;rw [decide_eq_false (by omega)]
theorem IV.aQ {i:IV} (h:i.ok):Go.Ae.aQ i.z.natAbs≤549755813888:=by
 unfold IV.z;rw [ug];exact Nat.le_trans (jm i.2) h
theorem NY {x y:Int} (hx:0≤x) (hy:0≤y):dO x y=cP x.natAbs y.natAbs:=by
 rw [← BY]; congr 1 <;> omega
theorem NZ {x y:Int} (hx:x < 0) (hy:y < 0):dO x y=cP y.natAbs x.natAbs:=by
 rw [← M6]; congr 1 <;> omega
open Go
structure zc (A D j Y c:Nat):Prop where
 lt:Y < C ^ j
 eq:Y+D % C ^ j=A % C ^ j+c*C ^ j
theorem Sq (A D:Nat):zc A D 0 0 0:=⟨by decide,by simp [Nat.mod_one]⟩
theorem TM {Y D A P c e d a c':Nat} (h:Y+D=A+c*P) (he:e+c+d=a+256*c') :
  Y+e*P+(D+d*P)=A+a*P+c'*(P*256):=by
 have J:(e+c+d)*P=(a+256*c')*P:=by rw [he]
 simp only [Nat.add_mul] at J;have h3:c'*(P*256)=256*c'*P:=by rw [Nat.mul_comm P,← Nat.mul_assoc,Nat.mul_comm c']
 omega
theorem Bm {A D j Y c e c' n:Nat} {g:Nat→List Value} (h:zc A D j Y c) (hg:nj g n j Y) (hj:j < n) (he:e < C) (ht:e+c+bW D j=bW A j+256*c') :
  ∃ Y',zc A D (j+1) Y' c'∧nj (fun r=>if r=n - (j+1) then [.int .u8 (e:Nat)] else g r) n (j+1) Y' :=
 ⟨Y+e*C ^ j,⟨KZ h.lt he,by
  rw [wG A j,wG D j,Nat.pow_succ];exact TM h.eq ht⟩,Kp hg hj h.lt he⟩
theorem TN {s t:ByteArray} {Y c:Nat} {g:Nat→List Value} (h:zc (ab s) (ab t) s.size Y c) (hle:ab t≤ab s) (hg:nj g s.size s.size Y) :
  ∃ v:ByteArray,(⟨⟨bytesOf g 0 s.size⟩⟩:ByteArray)=v∧v.size=s.size∧nb (ab v)=nb (ab s - ab t):=by
 refine ⟨be s.size Y,KF hg,w8 _ _,?_⟩;rw [Co h.lt];have h1:=h.eq;have J:=h.lt;have h3:=gq s;rw [Nat.mod_eq_of_lt h3,Nat.mod_eq_of_lt (Nat.lt_of_le_of_lt hle h3)] at h1;have hc:c=0:=by
  rcases Nat.eq_zero_or_pos c with h | h
  ·exact h
  ·have:1*C ^ s.size≤c*C ^ s.size:=Nat.mul_le_mul_right _ h;omega
 subst hc
 congr 1
 omega
def qM (g:Nat→List Value) (n Z:Nat):Prop:=∀ r,r < n→g r=[.int .i64 ((bW Z (n - 1 - r):Nat):Int)]
theorem SX (n:Nat):qM (fun _=>[.int .i64 0]) n 0:=fun r hr=>by rw [Wf]; rfl
theorem Mu {g:Nat→List Value} {n Z j d:Nat} (h:qM g n Z) (hj:j < n) (hd:d < C) :
  qM (fun r=>if r=n - 1 - j then [.int .i64 (d:Nat)] else g r) n (kj Z j d):=fun r hr=>by
 rw [NX hd];by_cases e:r=n - 1 - j
 ·simp only [if_pos e]; rw [if_pos (by omega)]
 ·simp only [if_neg e]; rw [if_neg (by omega)]; exact h r hr
structure zd (A D p m q Z c:Nat):Prop where
 lt:Z < C ^ (p+m)
 eq:Z+c*C ^ (p+q)=A % C ^ p*D+bW A p*(D % C ^ q)*C ^ p
structure ze (A D p m Z:Nat):Prop where
 lt:Z < C ^ (p+m)
 eq:Z=A % C ^ p*D
theorem Sr (A D m:Nat):ze A D 0 m 0:=⟨gX _,by simp [Nat.mod_one]⟩
theorem Ss {A D p m Z:Nat} (h:ze A D p m Z):zd A D p m 0 Z 0:=⟨h.lt,by simp [Nat.mod_one,h.eq]⟩
theorem SY {A D p m q Z c t n:Nat} {g:Nat→List Value} (h:zd A D p m q Z c) (hg:qM g n Z) (hq:q < m) (hn:p+m < n) (ht:t=c+(bW A p*bW D q+bW Z (p+q))) :
  ∃ Z',zd A D p m (q+1) Z' (t / C)∧qM (fun r=>if r=n - 1 - (p+q) then [.int .i64 (t % C:Nat)] else g r) n Z' :=
 have fI:t % C < C:=Nat.mod_lt _ (by decide)
 ⟨kj Z (p+q) (t % C),⟨Mt h.lt (by omega) fI,SV h.eq ht⟩,Mu hg (by omega) fI⟩
theorem TO {A D p m Z c n:Nat} {g:Nat→List Value} (h:zd A D p m m Z c) (hD:D < C ^ m) (hg:qM g n Z) (hn:p+m < n) (hc:c < C) :
  (bW Z (p+m)=0)∧∃ Z',ze A D (p+1) m Z'∧qM (fun r=>if r=n - 1 - (p+m) then [.int .i64 (c:Nat)] else g r) n Z' :=
 ⟨GI h.lt (Nat.le_refl _),kj Z (p+m) c,⟨by
  rw [show p+1+m=p+m+1 by omega]
  exact Mt (Nat.lt_of_lt_of_le h.lt (Nat.pow_le_pow_right (by decide) (Nat.le_succ _))) (by omega) hc,TH rfl hD h.lt h.eq⟩,Mu hg hn hc⟩
theorem TP {A D p m Z:Nat} (h:ze A D p m Z) (hA:A < C ^ p):Z=A*D:=by rw [h.eq,Nat.mod_eq_of_lt hA]
def wT (g:Nat→List Value) (n i Z:Nat):Prop:=(∀ r,r < n→∃ x:Int,g r=[.int .u8 x])∧∀ r,r < i→g r=[.int .u8 ((bW Z (n - 1 - r):Nat):Int)]
theorem R7 (n Z:Nat):wT (fun _=>[.int .u8 0]) n 0 Z:=⟨fun r _=>⟨0,rfl⟩,fun r h=>absurd h (by omega)⟩
theorem Sb {g:Nat→List Value} {n i Z:Nat} (h:wT g n i Z) (hi:i < n) :
  wT (fun r=>if r=i then [.int .u8 (bW Z (n - 1 - i):Nat)] else g r) n (i+1) Z:=by
 refine ⟨fun r hr=>?_,fun r hr=>?_⟩
 ·by_cases e:r=i
  ·exact ⟨_,if_pos e⟩
  ·simp only [if_neg e]; exact h.1 r hr
 ·by_cases e:r=i
  ·subst e; simp
  ·simp only [if_neg e]; exact h.2 r (by omega)
theorem St {g:Nat→List Value} {n Z:Nat} (h:wT g n n Z):(⟨⟨bytesOf g 0 n⟩⟩:ByteArray)=be n Z:=wq fun r hr=>h.2 r hr
theorem Su {g:Nat→List Value} {n Z:Nat} (h:wT g n n Z) (hZ:Z < C ^ n):∃ v:ByteArray,(⟨⟨bytesOf g 0 n⟩⟩:ByteArray)=v∧v.size=n∧nb (ab v)=nb Z :=
 ⟨be n Z,St h,w8 _ _,Co hZ⟩
theorem TQ {c x y z t:Nat} (hc:c < C) (hx:x < C) (hy:y < C) (hz:z < C) (ht:t=c+(x*y+z)):t / C < C∧t < 65536:=by
 have:x*y≤255*255:=Nat.mul_le_mul (Nat.le_of_lt_succ hx) (Nat.le_of_lt_succ hy);have hc:c < 256:=hc;have hz:z < 256:=hz;have h:t < 65536:=by omega
 exact ⟨by show t / 256 < 256; omega,h⟩
theorem XA {c x y z t:Nat} (hc:c < C) (hx:x < C) (hy:y < C) (hz:z < C) (ht:t=c+(x*y+z)) :
  IntKind.i64.wrap ((c:Int)+IntKind.i64.wrap ((z:Int)+IntKind.i64.wrap (IntKind.i64.wrap (x:Int)*IntKind.i64.wrap (y:Int))))=(t:Int):=by
 have h:x*y≤255*255:=Nat.mul_le_mul (Nat.le_of_lt_succ hx) (Nat.le_of_lt_succ hy);have hc:c < 256:=hc;have hz:z < 256:=hz;have hx:x < 256:=hx;have hy:y < 256:=hy;have e:(x:Int)*(y:Int)=((x*y:Nat):Int):=by rw [Int.natCast_mul]
 rw [ax (x:=(x:Int)) (by omega) (by omega),ax (x:=(y:Int)) (by omega) (by omega),e,ax (x:=((x*y:Nat):Int)) (by omega) (by omega),ax (x:=(z:Int)+_) (by omega) (by omega),ax (by omega) (by omega)]
 omega
theorem XB {t:Nat} (h:t < 65536):((BitVec.ofInt IntKind.i64.bits (t:Int) &&& BitVec.ofInt IntKind.i64.bits 255).toNat:Int)=((t % C:Nat):Int):=by
 have e1:BitVec.ofInt IntKind.i64.bits (t:Int)=BitVec.ofNat 64 t:=by
  apply BitVec.eq_of_toNat_eq;show ((t:Int) % ((2 ^ 64:Nat):Int)).toNat=t % 2 ^ 64
  omega
 rw [e1];show (((t % 2 ^ 64) &&& 255:Nat):Int)=_
 have:(t % 2 ^ 64) &&& 255=t % 256:=by
  rw [show (255:Nat)=2 ^ 8 - 1 from rfl,Nat.and_two_pow_sub_one_eq_mod]
  omega
 rw [this]
theorem Wh {s t:ByteArray}:ab s*ab t < C ^ (s.size+t.size):=by
 rw [Nat.pow_add];exact Nat.lt_of_le_of_lt (Nat.mul_le_mul_right _ (Nat.le_of_lt (gq s))) (Nat.mul_lt_mul_of_pos_left (gq t) (gX _))
theorem uZ {e:Nat} (h:e < 256):IntKind.u8.wrap (e:Int)=(e:Int):=dE (by omega) (by omega)
structure xt (s:ByteArray) (D i Q R:Nat):Prop where
 eq:ab s / C ^ (s.size - i)=Q*D+R
 lt:R < D
 q:Q < C ^ i
structure uz (D R' k d R:Nat):Prop where
 eq:R'=d*D+R
 lt:R < 2 ^ k*D
 d:d+2 ^ k≤256
theorem Sv (s:ByteArray) {D:Nat} (hD:D≠0):xt s D 0 0 0:=⟨by
 rw [Nat.sub_zero,Nat.div_eq_of_lt (gq s),Nat.zero_mul],Nat.pos_of_ne_zero hD,Nat.zero_lt_one⟩
theorem Sc {s:ByteArray} {D i Q R:Nat} (h:xt s D i Q R) (hi:i < s.size):uz D (R*256+b8 s i) 8 0 (R*256+b8 s i) :=
 ⟨by omega,by
  have h1:b8 s i < 256:=wD s i;have J:=h.lt;show _ < 256*D
  omega,by decide⟩
theorem SZ {D R' k d R:Nat} (h:uz D R' (k+1) d R) (hR:2 ^ k*D≤R):uz D R' k (d+2 ^ k) (R - 2 ^ k*D):=⟨by
 have:=h.eq;rw [Nat.add_mul];omega,by
 have:=h.lt;rw [Nat.pow_succ,Nat.mul_comm (2 ^ k) 2,Nat.mul_assoc] at this;omega,by
 have:=h.d;rw [Nat.pow_succ] at this;omega⟩
theorem TR {D R' k d R:Nat} (h:uz D R' (k+1) d R) (hR:R < 2 ^ k*D):uz D R' k d R:=⟨h.eq,hR,by
 have:=h.d;rw [Nat.pow_succ] at this;omega⟩
theorem S0 {s:ByteArray} {D i Q R d R2:Nat} (h:xt s D i Q R) (hi:i < s.size) (J:uz D (R*256+b8 s i) 0 d R2):xt s D (i+1) (Q*256+d) R2:=⟨by
 rw [yJ hi,h.eq,Nat.add_mul (Q*256),Nat.add_mul (Q*D)];have h3:=J.eq;have e:Q*256*D=Q*D*256:=by rw [Nat.mul_assoc,Nat.mul_comm 256,Nat.mul_assoc]
 rw [e,Nat.add_assoc,h3,Nat.add_assoc],by have:=J.lt; simpa using this,by
 have:=h.q;have h3:d < 256:=by have:=J.d; omega
 rw [Nat.pow_succ];show _ < C ^ i*256
 omega⟩
theorem TS {s:ByteArray} {D Q R:Nat} (h:xt s D s.size Q R):Q=ab s / D∧R=ab s % D:=by
 have h1:=h.eq;rw [Nat.sub_self,Nat.pow_zero,Nat.div_one] at h1;have J:=h.lt;refine ⟨?_,?_⟩
 ·rw [h1,Nat.mul_comm,Nat.mul_add_div (by omega),Nat.div_eq_of_lt J,Nat.add_zero]
 ·rw [h1,Nat.mul_comm,Nat.mul_add_mod,Nat.mod_eq_of_lt J]
def BH (g:Nat→List Value) (i D:Nat):Prop:=(∀ r,r < 8→∃ x:ByteArray,g r=[.string x])∧∀ r,r < i→g r=[.string (nb (2 ^ r*D))]
theorem R1 (D:Nat):BH (fun r=>if r=0 then [.string (nb D)] else [.string ⟨#[]⟩]) 1 D:=by
 refine ⟨fun r hr=>?_,fun r hr=>?_⟩
 ·by_cases e:r=0
  ·exact ⟨_,if_pos e⟩
  ·exact ⟨_,if_neg e⟩
 ·have e:r=0:=by omega
  subst e;simp
theorem R8 {g:Nat→List Value} {i D:Nat} (h:BH g (i+1) D) (hi:i+1 < 8) {v:ByteArray} (hv:v=nb (2 ^ i*D+2 ^ i*D)) :
  BH (fun r=>if r=i+1 then [.string v] else g r) (i+1+1) D:=by
 refine ⟨fun r hr=>?_,fun r hr=>?_⟩
 ·by_cases e:r=i+1
  ·exact ⟨_,if_pos e⟩
  ·simp only [if_neg e]; exact h.1 r hr
 ·by_cases e:r=i+1
  ·subst e;simp only [if_true];rw [hv,Nat.pow_succ,Nat.mul_comm (2 ^ i) 2,Nat.mul_assoc,Nat.two_mul]
  ·simp only [if_neg e]; exact h.2 r (by omega)
theorem FJ {D k:Nat} (hk:k≤8):aQ (2 ^ k*D)≤aQ D+1:=gN (by
 have h1:=lN D;have J:2 ^ k≤2 ^ 8:=Nat.pow_le_pow_right (by decide) hk
 rw [Nat.pow_succ,Nat.mul_comm (C ^ _)];exact Nat.lt_of_le_of_lt (Nat.mul_le_mul_right _ J) (Nat.mul_lt_mul_of_pos_left h1 (by decide)))
theorem aeC {k:Nat} (h:k≤7):IntKind.i64.wrap (1*2 ^ min (Int.toNat (IntKind.u64.wrap (k:Int))) IntKind.i64.bits)=((2 ^ k:Nat):Int):=by
 rcases k with _ | _ | _ | _ | _ | _ | _ | _ | k
 all_goals first | rfl | decide | omega
theorem U7 (R:Nat) {s:ByteArray} {i:Nat} (h:i < s.size):ab (nb R++s.extract i (i+1))=R*256+b8 s i∧(nb R++s.extract i (i+1)).size=aQ R+1:=by
 have e:=EE (s:=s) (l:=i) (h:=i+1) (by omega) (by omega)
 refine ⟨?_,by rw [ByteArray.size_append,gD,e]; omega⟩
 rw [SQ,ik,e,EJ (by omega) (by omega),tY h]
 rw [show i+1 - i=1 by omega,Nat.pow_one,show s.size - (i+1)=s.size - 1 - i by omega]
def zE (g:Nat→List Value) (n i Q:Nat):Prop:=(∀ r,r < n→∃ x:Int,g r=[.int .u8 x])∧∀ r,r < i→g r=[.int .u8 ((bW Q (i - 1 - r):Nat):Int)]
theorem S3 (n:Nat):zE (fun _=>[.int .u8 0]) n 0 0:=⟨fun r _=>⟨0,rfl⟩,fun r h=>absurd h (by omega)⟩
theorem Na {Q d:Nat} (hd:d < 256) (r:Nat):bW (Q*256+d) (r+1)=bW Q r∧bW (Q*256+d) 0=d:=by
 unfold bW;have e:(Q*256+d) / 256=Q:=by omega
 refine ⟨?_,?_⟩
 ·rw [Nat.pow_succ,Nat.mul_comm (C ^ r) C,← Nat.div_div_eq_div_mul];show (Q*256+d) / 256 / _ % _=_
  rw [e]
 ·rw [Nat.pow_zero,Nat.div_one];show _ % 256=_
  omega
theorem TU {g:Nat→List Value} {n i Q d:Nat} (h:zE g n i Q) (hi:i < n) (hd:d < 256) :
  zE (fun r=>if r=i then [.int .u8 (d:Nat)] else g r) n (i+1) (Q*256+d):=by
 refine ⟨fun r hr=>?_,fun r hr=>?_⟩
 ·by_cases e:r=i
  ·exact ⟨_,if_pos e⟩
  ·simp only [if_neg e]; exact h.1 r hr
 ·by_cases e:r=i
  ·subst e; simp only [if_true];rw [show r+1 - 1 - r=0 by omega,(Na hd 0).2]
  ·simp only [if_neg e];rw [h.2 r (by omega),show i+1 - 1 - r=(i - 1 - r)+1 by omega,(Na hd _).1]
theorem U8 {g:Nat→List Value} {n Q:Nat} (h:zE g n n Q) (hQ:Q < C ^ n):∃ v:ByteArray,(⟨⟨bytesOf g 0 n⟩⟩:ByteArray)=v∧v.size=n∧nb (ab v)=nb Q :=
 ⟨be n Q,wq fun r hr=>h.2 r hr,w8 _ _,Co hQ⟩
open Go
theorem xf {B:Bool} {N:Nat} {z:Int} (h1:B=decide (z < 0)) (J:N=z.natAbs):Value.agg ⟨[.bool B,.string (nb N)]⟩=aH z:=by
 subst h1; subst J; rfl
structure EI (z:Int) (B:Bool) (m:ByteArray):Prop where
 enc:aH z=.agg ⟨[.bool B,.string m]⟩
 sign:B=decide (z < 0)
 nU:m=nb z.natAbs
theorem EI.mk' (z:Int):∃ B m,EI z B m:=⟨_,_,rfl,rfl,rfl⟩
theorem EI.abs {z:Int} {B:Bool} {m:ByteArray} (h:EI z B m):ab m=z.natAbs:=by rw [h.nU,ik]
theorem EI.val {z:Int} {B:Bool} {m:ByteArray} (h:EI z B m):IV.z (B,m)=z:=by
 rw [h.sign,h.nU]; exact OM z
theorem EI.nil {z:Int} {B:Bool} {m:ByteArray} (h:EI z B m):(m.toList == (⟨#[]⟩:ByteArray).toList)=decide (z=0):=by
 have e:=Gb z.natAbs;rw [← h.nU] at e;have e2:(m.toList == (⟨#[]⟩:ByteArray).toList)=!(z.natAbs != 0):=by rw [← e,Bool.not_not]
 rw [e2];by_cases hz:z=0
 ·subst hz; rfl
 ·have:z.natAbs≠0:=by omega
  rw [decide_eq_false hz];simp [this]
theorem EI.nn {z:Int} {B:Bool} {m:ByteArray} (h:EI z B m):(!(m.toList == (⟨#[]⟩:ByteArray).toList))=decide (z≠0):=by
 rw [h.nil]; by_cases hz:z=0 <;> simp [hz]
theorem EI.size {z:Int} {B:Bool} {m:ByteArray} (h:EI z B m):m.size=aQ z.natAbs:=by rw [h.nU,gD]
theorem EI.eta {z:Int} {B:Bool} {m:ByteArray} (h:EI z B m):m=nb (ab m):=by rw [h.abs,h.nU]
theorem EI.small {z:Int} {B:Bool} {m:ByteArray} (h:EI z B m) (h7:m.size≤7):-72057594037927936 < z∧z < 72057594037927936:=by
 have:=GH (i:=(B,m)) h7;rw [h.val] at this;exact this
theorem EI.same {x y:Int} {B D:Bool} {m k:ByteArray} (h:EI x B m) (J:EI y D k) (e:B=D):Value.agg ⟨[.bool B,.string (nb (ab m+ab k))]⟩=aH (x+y):=by
 have h3:=h.sign;have h4:=J.sign;rw [← e] at h4;refine xf ?_ ?_
 ·cases B
  ·have:=of_decide_eq_false h3.symm;have:=of_decide_eq_false h4.symm;exact (decide_eq_false (by omega)).symm
  ·have:=of_decide_eq_true h3.symm;have:=of_decide_eq_true h4.symm;exact (decide_eq_true (by omega)).symm
 ·rw [h.abs,J.abs];cases B
  ·have:=of_decide_eq_false h3.symm;have:=of_decide_eq_false h4.symm;omega
  ·have:=of_decide_eq_true h3.symm;have:=of_decide_eq_true h4.symm;omega
theorem EI.differ {x y:Int} {B D:Bool} {m k:ByteArray} (h:EI x B m) (J:EI y D k) (e:B≠D) (an:ab k < ab m):Value.agg ⟨[.bool B,.string (nb (ab m - ab k))]⟩=aH (x+y):=by
 have h3:=h.sign;have h4:=J.sign;rw [h.abs,J.abs] at an ⊢;cases B <;> cases D
 ·exact absurd rfl e
 ·have:=of_decide_eq_false h3.symm;have:=of_decide_eq_true h4.symm;exact xf (decide_eq_false (by omega)).symm (by omega)
 ·have:=of_decide_eq_true h3.symm;have:=of_decide_eq_false h4.symm;exact xf (decide_eq_true (by omega)).symm (by omega)
 ·exact absurd rfl e
theorem EI.equal {x y:Int} {B D:Bool} {m k:ByteArray} (h:EI x B m) (J:EI y D k) (e:B≠D) (an:ab k=ab m):x+y=0:=by
 have h3:=h.sign;have h4:=J.sign;rw [h.abs,J.abs] at an;cases B <;> cases D
 ·exact absurd rfl e
 ·have:=of_decide_eq_false h3.symm;have:=of_decide_eq_true h4.symm;omega
 ·have:=of_decide_eq_true h3.symm;have:=of_decide_eq_false h4.symm;omega
 ·exact absurd rfl e
theorem EI.mul {x y:Int} {B D:Bool} {m k:ByteArray} (h:EI x B m) (J:EI y D k) (hx:x≠0) (hy:y≠0):Value.agg ⟨[.bool (B != D),.string (nb (ab m*ab k))]⟩=aH (x*y):=by
 have h3:=h.sign;have h4:=J.sign;rw [h.abs,J.abs];refine xf ?_ (by rw [Int.natAbs_mul])
 have hm:x*y < 0↔¬ ((x < 0)↔(y < 0)):=by
  rcases Int.lt_or_gt_of_ne hx with a | a <;> rcases Int.lt_or_gt_of_ne hy with b | b
  ·have:=Int.mul_pos_of_neg_of_neg a b;constructor
   ·intro; omega
   ·intro h; exact absurd ⟨fun _=>b,fun _=>a⟩ h
  ·have:=Int.mul_neg_of_neg_of_pos a b;constructor
   ·intro _ h; have:=h.1 a; omega
   ·intro; exact this
  ·have:=Int.mul_neg_of_pos_of_neg a b;constructor
   ·intro _ h; have:=h.2 b; omega
   ·intro; exact this
  ·have:=Int.mul_pos a b;constructor
   ·intro; omega
   ·intro h; exact absurd ⟨fun q=>by omega,fun q=>by omega⟩ h
 rw [h3,h4];by_cases a:x < 0 <;> by_cases b:y < 0 <;> simp [a,b,hm]
theorem EI.a8 {z:Int} {B:Bool} {m:ByteArray} (h:EI z B m):Go.Ae.a8 B (ab m)=z:=h.val
theorem Gd {x y zq zr:Int} {B D:Bool} {m k:ByteArray} (hE:EI x B m) (hF:EI y D k) (hy:y≠0) (h:B=D) (hq:zq=((ab m / ab k:Nat):Int)) (hr:zr=((ab m % ab k:Nat):Int)) :
  zq=Int.fdiv x y∧(if D=true then -zr else zr)=Int.fmod x y:=by
 have hk:0 < ab k:=by rw [hF.abs]; omega
 obtain ⟨h1,J⟩:=wF (b:=B) (c:=D) (A:=ab m) hk (.inr h);rw [hE.a8,hF.a8] at h1 J;rw [h1,J,hq,hr,h];cases D <;> exact ⟨rfl,rfl⟩
theorem FK {x y zq zr:Int} {B D:Bool} {m k:ByteArray} (hE:EI x B m) (hF:EI y D k) (hy:y≠0) (h:B≠D) (hq:zq=((ab m / ab k:Nat):Int)) (hr:zr=((ab m % ab k:Nat):Int)) (h0:zr=0) :
  -zq=Int.fdiv x y∧(if D=true then -zr else zr)=Int.fmod x y:=by
 have hk:0 < ab k:=by rw [hF.abs]; omega
 have h3:ab m % ab k=0:=by rw [h0] at hr; omega
 obtain ⟨h1,J⟩:=wF (b:=B) (c:=D) (A:=ab m) hk (.inl h3);rw [hE.a8,hF.a8] at h1 J;rw [h1,J,hq,h0,h3];refine ⟨?_,?_⟩
 ·cases B <;> cases D
  ·exact absurd rfl h
  ·rfl
  ·rfl
  ·exact absurd rfl h
 ·cases B <;> cases D <;> rfl
theorem Ge {x y zq zr:Int} {B D:Bool} {m k:ByteArray} (hE:EI x B m) (hF:EI y D k) (hy:y≠0) (h:B≠D) (hq:zq=((ab m / ab k:Nat):Int)) (hr:zr=((ab m % ab k:Nat):Int)) (h0:zr≠0) :
  -zq - 1=Int.fdiv x y∧(if D=true then -(((ab k:Nat):Int) - zr) else ((ab k:Nat):Int) - zr)=Int.fmod x y:=by
 have hk:0 < ab k:=by rw [hF.abs]; omega
 obtain ⟨h1,J⟩:=Fg (b:=B) (c:=D) (A:=ab m) hk (by omega) h
 rw [hE.a8,hF.a8] at h1;rw [hE.a8] at J;rw [hF.a8] at J;rw [h1,J,hq,hr];refine ⟨?_,?_⟩
 ·cases B <;> cases D
  ·exact absurd rfl h
  ·rfl
  ·rfl
  ·exact absurd rfl h
 ·have hv:=hF.a8;cases B <;> cases D
  ·exact absurd rfl h
  ·rw [← hv]; unfold Go.Ae.a8; simp only [if_true]; simp; omega
  ·rw [← hv]; unfold Go.Ae.a8; simp only [if_true]; simp; omega
  ·exact absurd rfl h
theorem EI.iZ {z:Int} (h:0≤z):∃ m,EI z false m:=⟨_,(xf (decide_eq_false (by omega)).symm rfl).symm,(decide_eq_false (by omega)).symm,rfl⟩
theorem Nb {n:Nat} (h:n < 72057594037927936):IntKind.i64.wrap (n:Int)=n:=ax (by omega) (by omega)
theorem Sd {x y:Int} (h:aQ x.natAbs+aQ y.natAbs < 8):-9223372036854775808≤x*y∧x*y < 9223372036854775808:=by
 have h1:=lN x.natAbs;have J:=lN y.natAbs;have h3:x.natAbs*y.natAbs < C ^ (aQ x.natAbs+aQ y.natAbs):=by
  rw [Nat.pow_add];exact Nat.lt_of_le_of_lt (Nat.mul_le_mul_right _ (Nat.le_of_lt h1)) (Nat.mul_lt_mul_of_pos_left J (gX _))
 have h4:=oo (i:=aQ x.natAbs+aQ y.natAbs) (by omega)
 rw [← Int.natAbs_mul] at h3;omega
open Go
def fG (d:Nat):ByteArray:=if d=1 then ⟨#[]⟩ else nb d
def bK (q:Rat):Value:=.agg ⟨[.bool (decide (q.num < 0)),.string (nb q.num.natAbs),.string (fG q.den)]⟩
abbrev RV:=Bool × ByteArray × ByteArray
def RV.v (i:RV):Value:=.agg ⟨[.bool i.1,.string i.2.1,.string i.2.2]⟩
def RV.n (i:RV):Int:=a8 i.1 (ab i.2.1)
def RV.d (i:RV):Nat:=if ab i.2.2=0 then 1 else ab i.2.2
def RV.q (i:RV):Rat:=mkRat i.n i.d
def RV.ok (i:RV):Prop:=i.2.1.size≤8589934592∧i.2.2.size≤8589934592
def RV.of (q:Rat):RV:=(decide (q.num < 0),nb q.num.natAbs,fG q.den)
theorem RV.jP (i:RV):i.d≠0:=by
 unfold RV.d
 split <;> omega
theorem U9 {d:Nat} (h:d≠0):(if ab (fG d)=0 then 1 else ab (fG d))=d:=by
 unfold fG
 split
 ·rename_i e; rw [e]; rfl
 ·rw [ik,if_neg h]
theorem RV.Qh (q:Rat):(RV.of q).n=q.num:=by
 exact OM q.num
theorem RV.Qi (q:Rat):(RV.of q).d=q.den:=U9 q.den_nz
theorem RV.iw (q:Rat):(RV.of q).q=q:=by
 unfold RV.q;rw [RV.Qh,RV.Qi,Rat.mkRat_self]
theorem Hc (n:Int) {d:Nat} (h:d≠0):n.fdiv ((Int.gcd n d:Nat):Int)=(mkRat n d).num:=by
 rw [Rat.num_mkRat,if_neg h,Int.fdiv_eq_ediv_of_nonneg _ (by omega)]
 rw [Int.gcd_comm]; rfl
theorem Hd (n:Int) {d:Nat} (h:d≠0):((d:Nat):Int).fdiv ((Int.gcd n d:Nat):Int)=(((mkRat n d).den:Nat):Int):=by
 rw [Rat.den_mkRat,if_neg h,Int.fdiv_eq_ediv_of_nonneg _ (by omega),Int.natCast_ediv]
 rw [Int.gcd_comm]; rfl
theorem aat (n:Int) {d:Nat} (h:d≠0):(mkRat n d).num.natAbs≤n.natAbs:=by
 rw [Rat.num_mkRat,if_neg h];exact Int.natAbs_ediv_le_natAbs n _
theorem ON (n:Int) {d:Nat} (h:d≠0):(mkRat n d).den≤d:=by
 rw [Rat.den_mkRat,if_neg h];exact Nat.div_le_self _ _
def QB (q:Rat) (k:Nat):Prop:=aQ q.num.natAbs≤k∧aQ q.den≤k
theorem xg (a b:Nat):aQ (a*b)≤aQ a+aQ b:=gN (by
 rw [Nat.pow_add];exact Nat.lt_of_le_of_lt (Nat.mul_le_mul_right _ (Nat.le_of_lt (lN a))) (Nat.mul_lt_mul_of_pos_left (lN b) (gX _)))
theorem N0 {a b k:Nat} (ha:aQ a≤k) (hb:aQ b≤k):aQ (a+b)≤k+1:=gN (by
 have h1:=Nat.lt_of_lt_of_le (lN a) (Nat.pow_le_pow_right (n:=C) (by decide) ha)
 have J:=Nat.lt_of_lt_of_le (lN b) (Nat.pow_le_pow_right (n:=C) (by decide) hb)
 rw [Nat.pow_succ];show _ < C ^ k*256
 omega)
theorem QB.mk {n:Int} {d k:Nat} (hd:d≠0) (h1:aQ n.natAbs≤k) (J:aQ d≤k):QB (mkRat n d) k :=
 ⟨Nat.le_trans (iV (aat n hd)) h1,Nat.le_trans (iV (ON n hd)) J⟩
theorem QB.mono {q:Rat} {k l:Nat} (h:QB q k) (hl:k≤l):QB q l:=⟨Nat.le_trans h.1 hl,Nat.le_trans h.2 hl⟩
theorem QB.add {p q:Rat} {k l:Nat} (hp:QB p k) (hq:QB q l):QB (p+q) (k+l+1):=by
 rw [Rat.add_def'];refine QB.mk (Nat.mul_ne_zero p.den_nz q.den_nz) ?_ ?_
 ·have h1:aQ (p.num*q.den).natAbs≤k+l:=by
   rw [Int.natAbs_mul]; exact Nat.le_trans (xg _ _) (Nat.add_le_add hp.1 hq.2)
  have J:aQ (q.num*p.den).natAbs≤k+l:=by
   rw [Int.natAbs_mul]; exact Nat.le_trans (xg _ _) (by rw [Nat.add_comm k]; exact Nat.add_le_add hq.1 hp.2)
  exact Nat.le_trans (iV (Int.natAbs_add_le _ _)) (N0 h1 J)
 ·exact Nat.le_trans (xg _ _) (Nat.le_succ_of_le (Nat.add_le_add hp.2 hq.2))
theorem QB.neg {p:Rat} {k:Nat} (hp:QB p k):QB (-p) k:=⟨by rw [Rat.neg_num,Int.natAbs_neg]; exact hp.1,hp.2⟩
theorem QB.sub {p q:Rat} {k l:Nat} (hp:QB p k) (hq:QB q l):QB (p - q) (k+l+1):=by
 rw [Rat.sub_eq_add_neg]; exact hp.add hq.neg
theorem QB.mul {p q:Rat} {k l:Nat} (hp:QB p k) (hq:QB q l):QB (p*q) (k+l):=by
 rw [Rat.mul_def'];refine QB.mk (Nat.mul_ne_zero p.den_nz q.den_nz) ?_ (Nat.le_trans (xg _ _) (Nat.add_le_add hp.2 hq.2));rw [Int.natAbs_mul]; exact Nat.le_trans (xg _ _) (Nat.add_le_add hp.1 hq.1)
theorem RV.qb {i:RV} {k:Nat} (h1:i.2.1.size≤k) (J:i.2.2.size≤k) (hk:1≤k):QB i.q k:=by
 refine QB.mk i.jP ?_ ?_
 ·unfold RV.n;rw [ug];exact Nat.le_trans (jm _) h1
 ·unfold RV.d
  split
  ·exact Nat.le_trans (gN (show 1 < C ^ 1 by decide)) hk
  ·exact Nat.le_trans (jm _) J
theorem Mv {d k:Nat} (h:aQ d≤k):(fG d).size≤k:=by
 unfold fG
 split
 ·exact Nat.zero_le _
 ·rw [gD]; exact h
theorem RV.sJ {q:Rat} (h:QB q 8589934592):(RV.of q).ok:=⟨by show (nb _).size≤_; rw [gD]; exact h.1,Mv h.2⟩
open Go
def xH (n d:IV):Value:=.agg ⟨[.bool n.1,.string n.2,.bool d.1,.string d.2]⟩
def g7:bE:={ ι:=IV × Int,args:=fun i=>[i.1.v,.int .i64 i.2],pre:=fun i=>i.1.ok∧-9223372036854775808≤i.2∧i.2 < 9223372036854775808,val:=fun i=>.bool (decide (i.1.z=i.2)) }
def Nc:bE:={ ι:=IV,args:=fun i=>[.bool i.1,.string i.2],pre:=fun _=>True,val:=fun i=>i.v }
def RV.den (i:RV):ByteArray:=if ab i.2.2=0 then nb 1 else i.2.2
def l8:bE:={ ι:=RV,args:=fun i=>[i.v],pre:=fun i=>i.2.2.size≤549755813888,val:=fun i=>xH (i.1,i.2.1) (false,i.den) }
def o9:bE:={ ι:=IV × IV,args:=fun i=>[xH i.1 i.2],pre:=fun i=>i.1.ok∧i.2.ok∧0 < i.2.z,val:=fun i=>bK (mkRat i.1.z i.2.z.natAbs) }
def qm:bE:={ ι:=IV × IV,args:=fun i=>[i.1.v,i.2.v],pre:=fun i=>i.1.ok∧i.2.ok∧0 < i.2.z,val:=fun i=>bK (mkRat i.1.z i.2.z.natAbs) }
def RV.fN (i:RV):Prop:=i.2.1.size≤3∧i.2.2.size≤3
instance (i:RV):Decidable i.fN:=inferInstanceAs (Decidable (_∧_))
def bF:bE:={ ι:=RV,args:=fun i=>[i.v],pre:=fun _=>True,val:=fun i=>.tuple ⟨[.int .i64 (if i.fN then i.n else 0),.int .i64 (if i.fN then (i.d:Int) else 0),.bool (decide i.fN)]⟩ }
def sK:bE:={ ι:=Nat,args:=fun n=>[.int .i64 n],pre:=fun n=>n < 72057594037927936,val:=fun n=>.string (nb n) }
def n6:bE:={ ι:=Int × Nat,args:=fun i=>[.int .i64 i.1,.int .i64 i.2],pre:=fun i=>i.1.natAbs < 72057594037927936∧i.2≠0∧i.2 < 72057594037927936,val:=fun i=>bK (mkRat i.1 i.2) }
def n7:bE:={ ι:=RV,args:=fun i=>[i.v],pre:=RV.ok,val:=fun i=>.tuple ⟨[aH i.n,aH i.d]⟩ }
abbrev nV:=RV × RV
def nV.ok (i:nV):Prop:=i.1.ok∧i.2.ok
def aW (p q:Rat):Int:=if p < q then -1 else if q < p then 1 else 0
def lR:bE:={ ι:=nV,args:=fun i=>[i.1.v,i.2.v],pre:=nV.ok,val:=fun i=>bK (i.1.q+i.2.q) }
def gQ:bE:={ ι:=nV,args:=fun i=>[i.1.v,i.2.v],pre:=nV.ok,val:=fun i=>bK (i.1.q - i.2.q) }
def lS:bE:={ ι:=nV,args:=fun i=>[i.1.v,i.2.v],pre:=nV.ok,val:=fun i=>bK (i.1.q*i.2.q) }
def jQ:bE:={ ι:=nV,args:=fun i=>[i.1.v,i.2.v],pre:=nV.ok,val:=fun i=>.int .i64 (aW i.1.q i.2.q) }
def zf:bE:={ ι:=RV,args:=fun i=>[i.v],pre:=RV.ok,val:=fun i=>bK i.q }
def mU:bE:={ ι:=Int,args:=fun n=>[.int .i64 n],pre:=fun n=>-9223372036854775808≤n∧n < 9223372036854775808,val:=fun n=>bK (n:Rat) }
theorem RV.He {i:RV} (h:i.fN):-16777216 < i.n∧i.n < 16777216:=by
 have h1:=gq i.2.1;have J:C ^ i.2.1.size≤C ^ 3:=Nat.pow_le_pow_right (by decide) h.1
 have h3:ab i.2.1 < 16777216:=Nat.lt_of_lt_of_le h1 J;unfold RV.n;unfold a8
 split <;> omega
theorem RV.Hf {i:RV} (h:i.fN):0 < i.d∧i.d < 16777216:=by
 have h1:=gq i.2.2;have J:C ^ i.2.2.size≤C ^ 3:=Nat.pow_le_pow_right (by decide) h.2
 have h3:ab i.2.2 < 16777216:=Nat.lt_of_lt_of_le h1 J;unfold RV.d
 split <;> omega
theorem RV.jR (i:RV):IV.z (false,i.den)=((i.d:Nat):Int):=by
 show ((ab i.den:Nat):Int)=_
 unfold RV.den RV.d
 split
 ·rw [ik]
 ·rfl
theorem RV.rW (i:RV):i.den.size≤i.2.2.size+1:=by
 unfold RV.den
 split
 ·exact Nat.le_trans Hb (Nat.le_add_left _ _)
 ·exact Nat.le_succ _
theorem RV.aeD (i:RV):i.q=mkRat i.n (IV.z (false,i.den)).natAbs:=by rw [RV.jR]; rfl
theorem K0 {a b:Int} (h1:-16777216 < a∧a < 16777216) (J:0 < b∧b < 16777216):-281474976710656 < a*b∧a*b < 281474976710656:=by
 have h3:(a*b).natAbs≤16777215*16777215:=by
  rw [Int.natAbs_mul];exact Nat.mul_le_mul (by omega) (by omega)
 omega
theorem HM (a b:RV):a.q+b.q=mkRat (a.n*b.d+b.n*a.d) (a.d*b.d):=Rat.mkRat_add_mkRat _ _ a.jP b.jP
theorem HN (a b:RV):a.q*b.q=mkRat (a.n*b.n) (a.d*b.d):=Rat.mkRat_mul_mkRat _ _ _ _
theorem yK (i:RV):i.q=(i.n:Rat) / ((i.d:Nat):Rat):=Rat.mkRat_eq_div _ _
theorem natCast_pos {d:Nat} (h:d≠0):(0:Rat) < ((d:Nat):Rat):=by
 have:((0:Nat):Rat) < ((d:Nat):Rat):=Rat.natCast_lt_natCast.2 (by omega)
 exact this
theorem aeE (a b:RV):a.q < b.q↔a.n*b.d < b.n*a.d:=by
 have ha:=natCast_pos a.jP;have hb:=natCast_pos b.jP;have e:a.q < b.q↔(a.n:Rat)*((b.d:Nat):Rat) < (b.n:Rat)*((a.d:Nat):Rat):=by
  rw [yK,yK,Rat.div_lt_iff ha];rw [show (b.n:Rat) / ((b.d:Nat):Rat)*((a.d:Nat):Rat)=((b.n:Rat)*((a.d:Nat):Rat)) / ((b.d:Nat):Rat) by
   rw [Rat.div_def,Rat.div_def]; grind]
  rw [Rat.lt_div_iff hb]
 rw [e,← Rat.intCast_natCast,← Rat.intCast_natCast,← Rat.intCast_mul,← Rat.intCast_mul,Rat.intCast_lt_intCast]
theorem Db (a b:RV):aW a.q b.q=dO (a.n*b.d) (b.n*a.d):=by
 unfold aW dO;simp only [aeE]
theorem ac1 (i:RV):-i.q=RV.q (!i.1,i.2):=by
 show -mkRat i.n i.d=mkRat (a8 (!i.1) (ab i.2.1)) i.d
 rw [Ga,Rat.neg_mkRat]
 rfl
theorem iw (n:Int):((n:Int):Rat)=mkRat n 1:=by
 have h:=Rat.mkRat_self ((n:Int):Rat);rw [Rat.num_intCast,Rat.den_intCast] at h;exact h.symm
theorem Qj {n e:Nat} (k:Int) (hk:k=((8*e:Nat):Int)) (he:e≤7):Int.fdiv (n:Int) (2 ^ min (Int.toNat k) IntKind.i64.bits)=((n / C ^ e:Nat):Int):=by
 subst hk;have e1:min (Int.toNat ((8*e:Nat):Int)) IntKind.i64.bits=8*e:=by
  show min (8*e) 64=8*e
  omega
 rw [e1];have e2:(2:Int) ^ (8*e)=((C ^ e:Nat):Int):=by
  rw [show C=2 ^ 8 from rfl,← Nat.pow_mul,Int.natCast_pow]; rfl
 rw [e2,Int.fdiv_eq_ediv_of_nonneg _ (Int.natCast_nonneg _),Int.natCast_ediv]
theorem ac2 {n:Nat} (h:n < 72057594037927936):n / C ^ 7=0:=Nat.div_eq_of_lt h
theorem XC {P d m:Nat} (h:P < C ^ m) (hd:d < 256):P*256+d < C ^ (m+1):=by
 rw [Nat.pow_succ];show _ < C ^ m*256
 omega
theorem XD {P d m:Nat} (h:C ^ (m - 1)≤P) (hm:1≤m):C ^ (m+1 - 1)≤P*256+d:=by
 rw [show m+1 - 1=m - 1+1 by omega,Nat.pow_succ]
 show C ^ (m - 1)*256≤_
 omega
theorem Mw {P Q D m:Nat} {g:Nat→List Value} (h:P=Q*256+D) (hD:D < 256) (hg:∀ r,r < m→g r=[.int .u8 ((Q / C ^ (m - 1 - r) % C:Nat):Int)]) (r:Nat) (hr:r < m+1) :
  iH g m (fun j=>[[Value.int .u8 ((P % C:Nat):Int)]].getD j []) r=[.int .u8 ((P / C ^ (m+1 - 1 - r) % C:Nat):Int)]:=by
 by_cases h1:r < m
 ·rw [jn h1,hg r h1,show m+1 - 1 - r=(m - 1 - r)+1 by omega,Nat.pow_succ,Nat.mul_comm (C ^ _) C,← Nat.div_div_eq_div_mul,show P / C=Q by rw [h]; show (Q*256+D) / 256=Q; omega]
 ·obtain rfl:r=m:=by omega
  rw [gp (Nat.le_refl _),Nat.sub_self,show r+1 - 1 - r=0 by omega,Nat.pow_zero,Nat.div_one]
  rfl
theorem GK {n:Int} {d g:Nat} (hn:n≠0) (hd:d≠0) (hg:g=Int.gcd n d):bK (mkRat n d)=.agg ⟨[.bool (decide (n < 0)),.string (nb (n.natAbs / g)),.string (fG (d / g))]⟩:=by
 have nW:0 < g:=by
  rw [hg]; exact Int.gcd_pos_of_ne_zero_left _ hn
 have e1:(mkRat n d).num=n / (g:Int):=by rw [← Hc n hd,← hg,Int.fdiv_eq_ediv_of_nonneg _ (by omega)]
 have e2:(mkRat n d).den=d / g:=by
  have:=Hd n hd;rw [← hg,Int.fdiv_eq_ediv_of_nonneg _ (by omega),← Int.natCast_ediv] at this
  exact (Int.ofNat_inj.1 this).symm
 have D6:(g:Int) ∣ n:=by rw [hg]; exact Int.gcd_dvd_left ..
 obtain ⟨q,hq⟩:=D6;have e3:n / (g:Int)=q:=by rw [hq]; exact Int.mul_ediv_cancel_left _ (by omega)
 have e4:n.natAbs / g=q.natAbs:=by
  rw [hq,Int.natAbs_mul,Int.natAbs_natCast]; exact Nat.mul_div_cancel_left _ nW
 have e5:n < 0↔q < 0:=by
  rw [hq];constructor
  ·intro h;rcases Int.lt_or_le q 0 with J | J
   ·exact J
   ·have:=Int.mul_nonneg (show (0:Int)≤g by omega) J
    omega
  ·intro h; exact Int.mul_neg_of_pos_of_neg (by omega) h
 unfold bK;rw [e1,e2,e3,e4];rw [show decide (n < 0)=decide (q < 0) from by simp only [e5]]
theorem yE (d:Nat):bK (mkRat 0 d)=.agg ⟨[.bool false,.string ⟨#[]⟩,.string ⟨#[]⟩]⟩:=by
 rw [Rat.zero_mkRat];show Value.agg ⟨[.bool false,.string (nb 0),.string (fG 1)]⟩=_
 rw [qj]
 rfl
theorem Wi {a b:Int}:Int.gcd b (a.tmod b)=Int.gcd a b:=by
 show Nat.gcd b.natAbs (a.tmod b).natAbs=Nat.gcd a.natAbs b.natAbs
 rw [Int.natAbs_tmod,Nat.gcd_comm,← Nat.gcd_rec,Nat.gcd_comm]
theorem N1 (a:Int) (h:-72057594037927936 < a∧a < 72057594037927936):(if IntKind.i64.wrap (0 - a) > a then IntKind.i64.wrap (0 - a) else a)=((a.natAbs:Nat):Int):=by
 rw [ax (x:=0 - a) (by omega) (by omega)]
 split <;> omega
theorem BI {a g:Nat} (h:a < 72057594037927936):IntKind.i64.wrap (Int.tdiv (a:Int) (g:Int))=((a / g:Nat):Int):=by
 rw [F9]; exact Nb (Nat.lt_of_le_of_lt (Nat.div_le_self _ _) h)
theorem Bc {n:Int} {d g:Nat} (hd:d≠0) (hg:g=Int.gcd n d):(d / g=1↔d=g)∧1≤d / g∧g≠0:=by
 have D6:g ∣ d:=by
  have:((g:Nat):Int) ∣ (d:Int):=by rw [hg]; exact Int.gcd_dvd_right ..
  exact Int.natCast_dvd_natCast.1 this
 have nW:0 < g:=Nat.pos_of_dvd_of_pos D6 (Nat.pos_of_ne_zero hd);obtain ⟨q,rfl⟩:=D6;rw [Nat.mul_div_cancel_left _ nW];have hq:q≠0:=by intro e; subst e; exact hd (Nat.mul_zero _)
 refine ⟨⟨fun h=>by rw [h,Nat.mul_one],fun h=>?_⟩,by omega,by omega⟩
 have:g*q=g*1:=by rw [Nat.mul_one]; exact h
 exact Nat.eq_of_mul_eq_mul_left nW this
theorem r0:-9223372036854775808≤(0:Int)∧(0:Int) < 9223372036854775808:=by decide
theorem r1:-9223372036854775808≤(1:Int)∧(1:Int) < 9223372036854775808:=by decide
theorem uA {n:Int} (h:-9223372036854775808≤n∧n < 9223372036854775808):aQ n.natAbs≤8:=gN (Nat.lt_of_le_of_lt (show n.natAbs≤9223372036854775808 by omega) (by decide))
theorem K1 (n e:Nat):n / C ^ e=n / C ^ (e+1)*256+n / C ^ e % 256:=by
 have:=EL n e;omega
abbrev I4:=(Int × Nat) × (Int × Nat)
def I4.args (i:I4):List Value:=[.int .i64 i.1.1,.int .i64 i.1.2,.int .i64 i.2.1,.int .i64 i.2.2]
def jS (i:Int × Nat):Prop:=(-16777216 < i.1∧i.1 < 16777216)∧0 < i.2∧i.2 < 16777216
def I4.ok (i:I4):Prop:=jS i.1∧jS i.2
def Dc:bE:={ ι:=I4,args:=I4.args,pre:=I4.ok,val:=fun i=>bK (mkRat (i.1.1*i.2.2+i.2.1*i.1.2) (i.1.2*i.2.2)) }
def Dd:bE:={ ι:=I4,args:=I4.args,pre:=I4.ok,val:=fun i=>bK (mkRat (i.1.1*i.2.1) (i.1.2*i.2.2)) }
def zF:bE:={ ι:=I4,args:=I4.args,pre:=I4.ok,val:=fun i=>.int .i64 (dO (i.1.1*i.2.2) (i.2.1*i.1.2)) }
abbrev FV:=(IV × IV) × (IV × IV)
def FV.args (i:FV):List Value:=[xH i.1.1 i.1.2,xH i.2.1 i.2.2]
def mI (i:IV × IV):Prop:=(i.1.2.size≤17179869184∧i.2.2.size≤17179869184)∧0 < i.2.z
def FV.ok (i:FV):Prop:=mI i.1∧mI i.2
def xI:bE:={ ι:=FV,args:=FV.args,pre:=FV.ok,val:=fun i=>bK (mkRat (i.1.1.z*i.2.2.z+i.2.1.z*i.1.2.z) (i.1.2.z*i.2.2.z).natAbs) }
def xJ:bE:={ ι:=FV,args:=FV.args,pre:=FV.ok,val:=fun i=>bK (mkRat (i.1.1.z*i.2.1.z) (i.1.2.z*i.2.2.z).natAbs) }
def xK:bE:={ ι:=FV,args:=FV.args,pre:=FV.ok,val:=fun i=>.int .i64 (dO (i.1.1.z*i.2.2.z) (i.2.1.z*i.1.2.z)) }
theorem I4.bounds {i:I4} (h:i.ok):(-281474976710656 < i.1.1*i.2.2∧i.1.1*i.2.2 < 281474976710656)∧(-281474976710656 < i.2.1*i.1.2∧i.2.1*i.1.2 < 281474976710656)∧(-281474976710656 < i.1.1*i.2.1∧i.1.1*i.2.1 < 281474976710656)∧0 < i.1.2*i.2.2∧i.1.2*i.2.2 < 281474976710656:=by
 obtain ⟨⟨h1,J⟩,h3,h4⟩:=h;refine ⟨K0 h1 ⟨by omega,by omega⟩,K0 h3 ⟨by omega,by omega⟩,?_,Nat.mul_pos J.1 h4.1,?_⟩
 ·have:(i.1.1*i.2.1).natAbs≤16777215*16777215:=by
   rw [Int.natAbs_mul];exact Nat.mul_le_mul (by omega) (by omega)
  omega
 ·have:i.1.2*i.2.2≤16777215*16777215:=Nat.mul_le_mul (by omega) (by omega)
  omega
theorem EI.gC {x y:Int} {B:Bool} {m:ByteArray} {k l:Nat} (h:EI (x*y) B m) (hx:aQ x.natAbs≤k) (hy:aQ y.natAbs≤l):m.size≤k+l:=by
 rw [h.size,Int.natAbs_mul];exact Nat.le_trans (xg _ _) (Nat.add_le_add hx hy)
theorem EI.Gf {x y:Int} {B:Bool} {m:ByteArray} {k:Nat} (h:EI (x+y) B m) (hx:aQ x.natAbs≤k) (hy:aQ y.natAbs≤k):m.size≤k+1:=by
 rw [h.size];exact Nat.le_trans (iV (Int.natAbs_add_le _ _)) (N0 hx hy)
theorem dF {b:Bool} {s:ByteArray} {k:Nat} (h:s.size≤k):aQ (IV.z (b,s)).natAbs≤k:=by
 unfold IV.z;rw [ug];exact Nat.le_trans (jm s) h
theorem RV.jS {i:RV} (h:i.fN):Go.Ae.jS (i.n,i.d):=⟨i.He h,i.Hf h⟩
theorem RV.mI {i:RV} (h:i.ok):Go.Ae.mI ((i.1,i.2.1),(false,i.den)):=⟨⟨by have:=h.1; show i.2.1.size≤_; omega,by have:=i.rW; have:=h.2; show i.den.size≤_; omega⟩,by
 show 0 < IV.z (false,i.den)
 rw [RV.jR];have:=i.jP;omega⟩
theorem aau (a b:RV):Dc.val ((a.n,a.d),(b.n,b.d))=bK (a.q+b.q):=by rw [HM]; rfl
theorem aav (a b:RV):Dd.val ((a.n,a.d),(b.n,b.d))=bK (a.q*b.q):=by rw [HN]; rfl
theorem aaw (a b:RV):zF.val ((a.n,a.d),(b.n,b.d))=.int .i64 (aW a.q b.q):=by rw [Db]; rfl
theorem K2 (a b:RV):(IV.z (false,a.den)*IV.z (false,b.den)).natAbs=a.d*b.d:=by
 rw [RV.jR,RV.jR,← Int.natCast_mul,Int.natAbs_natCast]
theorem aax (a b:RV):xI.val (((a.1,a.2.1),(false,a.den)),((b.1,b.2.1),(false,b.den)))=bK (a.q+b.q):=by
 show bK (mkRat (IV.z (a.1,a.2.1)*IV.z (false,b.den)+IV.z (b.1,b.2.1)*IV.z (false,a.den)) (IV.z (false,a.den)*IV.z (false,b.den)).natAbs)=_
 rw [K2,RV.jR,RV.jR,HM]
 rfl
theorem aay (a b:RV):xJ.val (((a.1,a.2.1),(false,a.den)),((b.1,b.2.1),(false,b.den)))=bK (a.q*b.q):=by
 show bK (mkRat (IV.z (a.1,a.2.1)*IV.z (b.1,b.2.1)) (IV.z (false,a.den)*IV.z (false,b.den)).natAbs)=_
 rw [K2,HN]
 rfl
theorem aaz (a b:RV):xK.val (((a.1,a.2.1),(false,a.den)),((b.1,b.2.1),(false,b.den)))=.int .i64 (aW a.q b.q):=by
 show Value.int .i64 (dO (IV.z (a.1,a.2.1)*IV.z (false,b.den)) (IV.z (b.1,b.2.1)*IV.z (false,a.den)))=_
 rw [RV.jR,RV.jR,Db]
 rfl
open Go
def iJ:bE:={ ι:=RV,args:=fun i=>[i.v],pre:=RV.ok,val:=fun i=>.int .i64 (aW i.q 0) }
def nm:bE:={ ι:=RV,args:=fun i=>[i.v],pre:=RV.ok,val:=fun i=>.int .i64 (if i=RV.of i.q then 0 else 1) }
def l9 (n d:Int):Value:=.tuple ⟨[bK (Rat.divInt n d),.int .i64 (if d=0 then 10 else 0)]⟩
def u0:bE:={ ι:=kM,args:=fun i=>[i.1.v,i.2.v],pre:=kM.ok,val:=fun i=>l9 i.1.z i.2.z }
def GL:bE:={ ι:=Int × Int,args:=fun i=>[.int .i64 i.1,.int .i64 i.2],pre:=fun i=>(-9223372036854775808≤i.1∧i.1 < 9223372036854775808)∧-9223372036854775808≤i.2∧i.2 < 9223372036854775808,val:=fun i=>l9 i.1 i.2 }
theorem aaA (i:RV):aW i.q 0=dO i.n 0:=by
 have h:=Db i (RV.of 0);rw [RV.iw,RV.Qh,RV.Qi] at h;rw [h];show dO (i.n*1) (0*_)=_
 rw [Int.mul_one,Int.zero_mul]
theorem EX (i j:RV):eU [.bool i.1,.string i.2.1,.string i.2.2] [.bool j.1,.string j.2.1,.string j.2.2]=decide (i=j):=by
 obtain ⟨a,b,c⟩:=i;obtain ⟨a',b',c'⟩:=j;simp only [eU,Bool.and_true,qC];by_cases h1:a=a' <;> by_cases J:b=b' <;> by_cases h3:c=c' <;> simp [h1,J,h3]
theorem LB {n d:Int} (h:0 < d):Rat.divInt n d=mkRat n d.natAbs:=by
 obtain ⟨k,rfl⟩:∃ k:Nat,d=k:=⟨d.natAbs,by omega⟩
 rw [Rat.divInt_ofNat,Int.natAbs_natCast]
theorem S4 {n d:Int} (h:d < 0):Rat.divInt n d=mkRat (-n) (-d).natAbs:=by
 rw [← Rat.neg_divInt_neg,LB (by omega)]
theorem OO (b:Bool) (s t:ByteArray):RV.q (!b,s,t)=-RV.q (b,s,t):=(ac1 (b,s,t)).symm
theorem ac3:bK 0=.agg ⟨[.bool false,.string ⟨#[]⟩,.string ⟨#[]⟩]⟩:=by
 have:=yE 1
 rwa [Rat.zero_mkRat] at this
def Qk (q:Rat):Rat:=if q < 0 then -q else q
def RV.zG (i:RV):Prop:=60 < i.2.1.size∨60 < i.2.2.size
instance (i:RV):Decidable i.zG:=inferInstanceAs (Decidable (_∨_))
theorem uh {p q:Rat}:aW p q > 0↔q < p:=by
 unfold aW
 split
 ·rename_i h;constructor
  ·intro J; exact absurd J (by decide)
  ·intro J; grind
 ·split
  ·exact ⟨fun _=>by assumption,fun _=>by decide⟩
  ·exact ⟨fun h=>absurd h (by decide),fun h=>by contradiction⟩
theorem B0 {p q:Rat}:aW p q < 0↔p < q:=by
 unfold aW
 split
 ·exact ⟨fun _=>by assumption,fun _=>by decide⟩
 ·split
  ·exact ⟨fun h=>absurd h (by decide),fun h=>by contradiction⟩
  ·exact ⟨fun h=>absurd h (by decide),fun h=>by contradiction⟩
theorem aeF:nb 1=⟨#[1]⟩:=by
 rw [xG (n:=1) (by decide) (.inr (by decide))]
 rfl
open Go
abbrev PV:=RV × RV
def PV.cells (p:PV):List Value:=[.bool p.1.1,.string p.1.2.1,.string p.1.2.2,.bool p.2.1,.string p.2.2.1,.string p.2.2.2]
def PV.v (p:PV):Value:=.agg ⟨[.bool p.1.1,.string p.1.2.1,.string p.1.2.2,.bool p.2.1,.string p.2.2.1,.string p.2.2.2]⟩
def mV (x y:Rat):Value:=PV.v (RV.of x,RV.of y)
def RV.sz (k:Nat) (i:RV):Prop:=i.2.1.size≤k∧i.2.2.size≤k
def PV.sz (k:Nat) (p:PV):Prop:=p.1.sz k∧p.2.sz k
theorem RV.bZ {k:Nat} {i:RV} (h:i.sz k) (hk:k≤8589934592):i.ok:=⟨Nat.le_trans h.1 hk,Nat.le_trans h.2 hk⟩
theorem RV.aY {k l:Nat} {i:RV} (h:i.sz k) (hk:k≤l):i.sz l:=⟨Nat.le_trans h.1 hk,Nat.le_trans h.2 hk⟩
theorem PV.aY {k l:Nat} {i:PV} (h:i.sz k) (hk:k≤l):i.sz l:=⟨RV.aY h.1 hk,RV.aY h.2 hk⟩
theorem RV.nE {q:Rat} {k:Nat} (h:QB q k):(RV.of q).sz k:=⟨by show (nb _).size≤_; rw [gD]; exact h.1,Mv h.2⟩
theorem RV.j3 {i:RV} {k:Nat} (h:i.sz k) (hk:1≤k):QB i.q k:=RV.qb h.1 h.2 hk
def mc (a b:Rat):Rat:=if a < b then b else a
def me (a b:Rat):Rat:=if b < a then b else a
def aeG (a b:PV):Int:=if aW a.1.q b.1.q≠0 then aW a.1.q b.1.q else aW a.2.q b.2.q
abbrev rD:=PV × PV
def vK:Int→Prop:=fun n=>-9223372036854775808≤n∧n < 9223372036854775808
def qW:bE:={ ι:=Int × Int,args:=fun i=>[.int .i64 i.1,.int .i64 i.2],pre:=fun i=>vK i.1∧vK i.2,val:=fun i=>mV (i.1:Rat) (i.2:Rat) }
def JE (i:rD):Prop:=i.1.sz 8589934592∧i.2.sz 8589934592
def HO:bE:={ ι:=rD,args:=fun i=>[i.1.v,i.2.v],pre:=JE,val:=fun i=>mV (i.1.1.q+i.2.1.q) (i.1.2.q+i.2.2.q) }
def kW:bE:={ ι:=rD,args:=fun i=>[i.1.v,i.2.v],pre:=JE,val:=fun i=>mV (i.1.1.q - i.2.1.q) (i.1.2.q - i.2.2.q) }
def GM:bE:={ ι:=PV × RV,args:=fun i=>[i.1.v,i.2.v],pre:=fun i=>i.1.sz 8589934592∧i.2.sz 8589934592,val:=fun i=>mV (i.1.1.q*i.2.q) (i.1.2.q*i.2.q) }
def aeH (i:rD):Prop:=i.1.sz 1073741824∧i.2.sz 1073741824
def aaB (p q:PV):Rat:=p.1.q*q.2.q - p.2.q*q.1.q
def qn:bE:={ ι:=rD,args:=fun i=>[i.1.v,i.2.v],pre:=aeH,val:=fun i=>bK (aaB i.1 i.2) }
def PV.canon (p:PV):Prop:=p.1=RV.of p.1.q∧p.2=RV.of p.2.q
instance (p:PV):Decidable p.canon:=inferInstanceAs (Decidable (_∧_))
def lK:bE:={ ι:=PV,args:=fun i=>[i.v],pre:=fun i=>i.sz 8589934592,val:=fun i=>.int .i64 (if i.canon then 0 else 1) }
def pG:bE:={ ι:=rD,args:=fun i=>[i.1.v,i.2.v],pre:=JE,val:=fun i=>.int .i64 (aeG i.1 i.2) }
def aeI (i:rD):Prop:=i.1.sz 268435456∧i.2.sz 268435456
def xV:bE:={ ι:=rD × RV,args:=fun i=>[i.1.1.v,i.1.2.v,i.2.v],pre:=fun i=>aeI i.1∧i.2.sz 268435456,val:=fun i=>mV (i.1.1.1.q+(i.1.2.1.q - i.1.1.1.q)*i.2.q) (i.1.1.2.q+(i.1.2.2.q - i.1.1.2.q)*i.2.q) }
def PV.zG (p:PV):Prop:=p.1.zG∨p.2.zG
instance (p:PV):Decidable p.zG:=inferInstanceAs (Decidable (_∨_))
theorem TW (p q:PV):eU p.cells q.cells=decide (p=q):=by
 obtain ⟨⟨a,b,c⟩,⟨d,e,f⟩⟩:=p;obtain ⟨⟨a',b',c'⟩,⟨d',e',f'⟩⟩:=q;simp only [PV.cells,eU,Bool.and_true,qC];by_cases h1:a=a' <;> by_cases J:b=b' <;> by_cases h3:c=c' <;> by_cases h4:d=d' <;> by_cases h5:e=e' <;> by_cases h6:f=f' <;> simp [h1,J,h3,h4,h5,h6]
def RV.cells (i:RV):List Value:=[.bool i.1,.string i.2.1,.string i.2.2]
def cB (l:List PV):Nat→List Value:=fun r=>(l.getD r ((false,⟨#[]⟩,⟨#[]⟩),(false,⟨#[]⟩,⟨#[]⟩))).cells
theorem B5 {o:Bool} {n k:Nat} {g:Nat→List Value} {rows:List (List Value)} (h1:rows.length=n) (J:∀ r,r < n→rows.getD r []=g r) (h3:∀ r,r < n→mP (g r)=true):aG (.flat false n k g) (.aO o k rows) :=
 ⟨(fun h=>by cases h),rfl,by show n≤rows.length; omega,fun r hr=>by
  show g r=rows.getD r []
  exact (J r hr).symm,fun r hr v hv=>dD (h3 r hr) v hv⟩
theorem LC (l:List PV) (r:Nat):mP (cB l r)=true:=rfl
open Go
theorem rT {l:List PV} {i:Nat} (h:i < l.length):∃ p,l[i]?=some p∧p∈l∧cB l i=p.cells:=by
 refine ⟨l[i],List.getElem?_eq_getElem h,List.getElem_mem h,?_⟩;unfold cB;rw [List.getD_eq_getElem?_getD,List.getElem?_eq_getElem h]
 rfl
theorem Wj {p q:Rat}:aW p q=1↔q < p:=by
 unfold aW
 split
 ·rename_i h;exact ⟨fun J=>absurd J (by decide),fun J=>by grind⟩
 ·split
  ·exact ⟨fun _=>by assumption,fun _=>rfl⟩
  ·exact ⟨fun h=>absurd h (by decide),fun h=>by contradiction⟩
theorem Va {p q:Rat}:aW p q=-1↔p < q:=by
 unfold aW
 split
 ·exact ⟨fun _=>by assumption,fun _=>rfl⟩
 ·split
  ·exact ⟨fun h=>absurd h (by decide),fun h=>by contradiction⟩
  ·exact ⟨fun h=>absurd h (by decide),fun h=>by contradiction⟩
theorem QB.max {p q:Rat} {k:Nat} (hp:QB p k) (hq:QB q k):QB (mc p q) k:=by
 unfold mc; split <;> assumption
theorem QB.min {p q:Rat} {k:Nat} (hp:QB p k) (hq:QB q k):QB (me p q) k:=by
 unfold me; split <;> assumption
theorem QB.abs {p:Rat} {k:Nat} (hp:QB p k):QB (Qk p) k:=by
 unfold Qk; split
 ·exact hp.neg
 ·exact hp
abbrev XV:=PV × PV
def XV.v (b:XV):Value:=.agg ⟨[.bool b.1.1.1,.string b.1.1.2.1,.string b.1.1.2.2,.bool b.1.2.1,.string b.1.2.2.1,.string b.1.2.2.2,.bool b.2.1.1,.string b.2.1.2.1,.string b.2.1.2.2,.bool b.2.2.1,.string b.2.2.2.1,.string b.2.2.2.2]⟩
def XV.cells (b:XV):List Value:=[.bool b.1.1.1,.string b.1.1.2.1,.string b.1.1.2.2,.bool b.1.2.1,.string b.1.2.2.1,.string b.1.2.2.2,.bool b.2.1.1,.string b.2.1.2.1,.string b.2.1.2.2,.bool b.2.2.1,.string b.2.2.2.1,.string b.2.2.2.2]
def Pr (b:XV) (p:PV):Prop:=b.1.1.q≤p.1.q∧p.1.q≤b.2.1.q∧b.1.2.q≤p.2.q∧p.2.q≤b.2.2.q
instance (b:XV) (p:PV):Decidable (Pr b p):=inferInstanceAs (Decidable (_∧_∧_∧_))
def Wk:bE:={ ι:=XV × PV,args:=fun i=>[i.1.v,i.2.v],pre:=fun i=>(i.1.1.sz 268435456∧i.1.2.sz 268435456)∧i.2.sz 268435456,val:=fun i=>.bool (decide (Pr i.1 i.2)) }
theorem xh {p q:Rat}:aW p q≤0↔p≤q:=by
 have:=uh (p:=p) (q:=q);constructor
 ·intro h; have:¬ q < p:=fun e=>by have:=this.2 e; omega
  grind
 ·intro h; have:¬ aW p q > 0:=fun e=>by have:=this.1 e; grind
  omega
theorem mF {p q:Rat}:aW p q ≥ 0↔q≤p:=by
 have:=B0 (p:=p) (q:=q);constructor
 ·intro h; have:¬ p < q:=fun e=>by have:=this.2 e; omega
  grind
 ·intro h; have:¬ aW p q < 0:=fun e=>by have:=this.1 e; grind
  omega
open Go
def qN:bE:={ ι:=nV,args:=fun i=>[i.1.v,i.2.v],pre:=nV.ok,val:=fun i=>.tuple ⟨[bK (i.1.q / i.2.q),.int .i64 (if i.2.q=0 then 10 else 0)]⟩ }
theorem TX (b:RV):b.q=0↔b.n=0:=by
 have hb:=natCast_pos b.jP;rw [yK,Rat.div_def];constructor
 ·intro h;rcases Rat.mul_eq_zero.1 h with h | h
  ·exact_mod_cast h
  ·exfalso;have J:((b.d:Nat):Rat)*((b.d:Nat):Rat)⁻¹=1:=Rat.mul_inv_cancel _ (by grind)
   rw [h] at J;grind
 ·intro h;rw [h];simp
theorem ac4 (a b:RV):l9 (a.n*b.d) (a.d*b.n)=.tuple ⟨[bK (a.q / b.q),.int .i64 (if b.q=0 then 10 else 0)]⟩:=by
 have ha:=natCast_pos a.jP;have hb:=natCast_pos b.jP;have e1:Rat.divInt (a.n*b.d) (a.d*b.n)=a.q / b.q:=by
  rw [Rat.divInt_eq_div,yK a,yK b,Rat.intCast_mul,Rat.intCast_mul,Rat.intCast_natCast,Rat.intCast_natCast];by_cases h:(b.n:Rat)=0
  ·rw [h]; simp [Rat.div_def]
  ·grind
 have e2:((a.d:Int)*b.n=0)↔b.q=0:=by
  rw [TX];constructor
  ·intro h;rcases Int.mul_eq_zero.1 h with h | h
   ·have:=a.jP; omega
   ·exact h
  ·intro h; rw [h]; simp
 unfold l9;rw [e1];simp only [e2]
open Go
theorem Rm (i:RV):eU [.bool i.1,.string i.2.1,.string i.2.2] [.bool i.1,.string i.2.1,.string i.2.2]=true:=by
 rw [EX i i]; exact decide_eq_true rfl
instance (n:Int):Decidable (vK n):=inferInstanceAs (Decidable (_∧_))
def OP:bE:={ ι:=Unit,args:=fun _=>[],pre:=fun _=>True,val:=fun _=>.bool true }
def dp:RV:=(false,⟨#[]⟩,⟨#[]⟩)
theorem ui (k:Nat):dp.sz k:=⟨Nat.zero_le _,Nat.zero_le _⟩
theorem zg {n:Int} (h:n.natAbs < 256):QB (n:Rat) 1:=by
 have e1:(n:Rat).num=n:=Rat.num_intCast n;have e2:(n:Rat).den=1:=Rat.den_intCast n;refine ⟨?_,?_⟩
 ·rw [e1]; exact gN (show n.natAbs < C ^ 1 from h)
 ·rw [e2]; exact gN (show 1 < C ^ 1 by decide)
open Go
abbrev PL:=Option (List PV × Nat)
def PL.val:PL→Value
 | none=>.slice none 0 0
 | some i=>.slice (some ⟨0,0,none⟩) i.1.length i.2
def PL.ae:PL→List aj
 | none=>[]
 | some i=>[.flat false i.1.length 6 (cB i.1)]
def PL.list:PL→List PV
 | none=>[]
 | some i=>i.1
def PL.ok (i:PL):Prop:=i.list.length≤9223372036854775807
def lT:XV:=((dp,dp),(dp,dp))
theorem XE:dp.q=0:=by
 show mkRat (a8 false (ab ⟨#[]⟩)) _=0
 exact Rat.zero_mkRat _
open Go
theorem eqX (b:XV):eU [.bool b.1.1.1,.string b.1.1.2.1,.string b.1.1.2.2,.bool b.1.2.1,.string b.1.2.2.1,.string b.1.2.2.2,.bool b.2.1.1,.string b.2.1.2.1,.string b.2.1.2.2,.bool b.2.2.1,.string b.2.2.2.1,.string b.2.2.2.2] [.bool b.1.1.1,.string b.1.1.2.1,.string b.1.1.2.2,.bool b.1.2.1,.string b.1.2.2.1,.string b.1.2.2.2,.bool b.2.1.1,.string b.2.1.2.1,.string b.2.1.2.2,.bool b.2.2.1,.string b.2.2.2.1,.string b.2.2.2.2]=true:=by
 simp [eU]
open Go
structure Bounds (l:List PV) (X:XV):Prop where
 inb:∀ p∈l,Wk.val (X,p)=.bool true
 sz:X.1.sz 268435456∧X.2.sz 268435456
 c1:lK.val X.1=.int .i64 0
 c2:lK.val X.2=.int .i64 0
 l1:∃ p∈l,p.1.q=X.1.1.q
 l2:∃ p∈l,p.1.q=X.2.1.q
 l3:∃ p∈l,p.2.q=X.1.2.q
 l4:∃ p∈l,p.2.q=X.2.2.q
theorem yF {p q:Rat}:aW p q=0↔p=q:=by
 have h1:=xh (p:=p) (q:=q);have J:=mF (p:=p) (q:=q);constructor
 ·intro h; have:=h1.1 (by omega); have:=J.1 (by omega); grind
 ·intro h; have:=h1.2 (by grind); have:=J.2 (by grind); omega
theorem aG.rU {o o':Bool} {n e:Nat} {g f:Nat→List Value} (h:o=true→o'=true) (hf:∀ r,r < n→f r=g r) (hs:∀ r,r < n→mP (g r)=true):aG (.flat o n e g) (.flat o' n e f) :=
 ⟨fun ho=>⟨h ho,rfl⟩,rfl,Nat.le_refl _,fun r hr=>(hf r hr).symm,fun r hr v hv=>dD (hs r hr) v hv⟩
open Go
abbrev Q2:=Rat × Rat
def PV.p (a:PV):Q2:=(a.1.q,a.2.q)
def cj (p:Q2):PV:=(RV.of p.1,RV.of p.2)
theorem gF (p:Q2):(cj p).p=p:=by
 show ((RV.of p.1).q,(RV.of p.2).q)=p
 rw [RV.iw,RV.iw]
def sX (b a:Q2):Q2:=(b.1 - a.1,b.2 - a.2)
def DA (u v:Q2):Rat:=u.1*v.1+u.2*v.2
def n8 (u v:Q2):Rat:=u.1*v.2 - u.2*v.1
theorem N2 (b a:PV):kW.val (b,a)=(cj (sX b.p a.p)).v:=rfl
theorem Vb (u v:PV):qn.val (u,v)=(RV.of (n8 u.p v.p)).v:=rfl
theorem Wl (r:RV):iJ.val r=.int .i64 (aW r.q 0):=rfl
def Q2.sz (k:Nat) (p:Q2):Prop:=QB p.1 k∧QB p.2 k
theorem PV.dg {a:PV} {k:Nat} (h:a.sz k) (hk:1≤k):Q2.sz k a.p:=⟨RV.j3 h.1 hk,RV.j3 h.2 hk⟩
theorem sj {p:Q2} {k l:Nat} (h:Q2.sz k p) (hl:k≤l):(cj p).sz l:=⟨RV.aY (RV.nE h.1) hl,RV.aY (RV.nE h.2) hl⟩
theorem pr {a b:Q2} {k l:Nat} (ha:Q2.sz k a) (hb:Q2.sz l b):Q2.sz (k+l+1) (sX a b):=⟨ha.1.sub hb.1,ha.2.sub hb.2⟩
theorem aaC {a b:Q2} {k l:Nat} (ha:Q2.sz k a) (hb:Q2.sz l b):QB (DA a b) (k+l+(k+l)+1):=(ha.1.mul hb.1).add (ha.2.mul hb.2)
theorem yL {a b:Q2} {k l:Nat} (ha:Q2.sz k a) (hb:Q2.sz l b):QB (n8 a b) (k+l+(k+l)+1):=(ha.1.mul hb.2).sub (ha.2.mul hb.1)
theorem aaD {q:Rat} {k:Nat} (h:QB q k) (hk:k≤8589934592):(RV.of q).ok:=RV.sJ (h.mono hk)
def ak (a b c:Q2):Rat:=n8 (sX b a) (sX c a)
abbrev yg:=PV × PV × PV
def DC (i:yg):Prop:=i.1.sz 1048576∧i.2.1.sz 1048576∧i.2.2.sz 1048576
def kd:bE:={ ι:=yg,args:=fun i=>[i.1.v,i.2.1.v,i.2.2.v],pre:=DC,val:=fun i=>.int .i64 (aW (ak i.1.p i.2.1.p i.2.2.p) 0) }
def DD (a b p:Q2):Prop:=ak a b p=0∧DA (sX a p) (sX b p)≤0
instance (a b p:Q2):Decidable (DD a b p):=inferInstanceAs (Decidable (_∧_))
def lU (v:Q2):Int:=if v.1=0∧v.2=0 then 0 else if 0 < v.2∨v.2=0∧0 < v.1 then 1 else 2
def sY (u v:Q2):Int:=if lU u < lU v then -1 else if lU v < lU u then 1 else -aW (n8 u v) 0
abbrev TV:=PV × PV × PV
def TV.v (t:TV):Value:=.agg ⟨t.1.cells++(t.2.1.cells++t.2.2.cells)⟩
def xL (u p:Q2):Q2:=(DA u p,n8 u p)
def aeJ (u v w:Q2):Prop:=lU u≠0∧lU v≠0∧lU w≠0∧sY (xL u w) (xL u u)≠0∧(sY (xL u v) (xL u u)=0∨sY (xL u w) (xL u v) < 0)
instance (u v w:Q2):Decidable (aeJ u v w):=inferInstanceAs (Decidable (_∧_))
open Go
def fH (a b:Q2):Int:=if aW a.1 b.1≠0 then aW a.1 b.1 else aW a.2 b.2
theorem N3 {p q:Rat} (h:p < q):aW p q=-1:=Va.2 h
theorem N4 {p q:Rat} (h:q < p):aW p q=1:=Wj.2 h
theorem GN {p q:Rat} (h:p=q):aW p q=0:=yF.2 h
theorem Rn (q:Rat):q < 0∨q=0∨0 < q:=by
 by_cases h:q < 0
 ·exact .inl h
 ·by_cases J:0 < q
  ·exact .inr (.inr J)
  ·exact .inr (.inl (by grind))
theorem Bw (q:Rat):(q < 0∧aW q 0=-1)∨(q=0∧aW q 0=0)∨(0 < q∧aW q 0=1):=by
 rcases Rn q with h | h | h
 ·exact .inl ⟨h,N3 h⟩
 ·exact .inr (.inl ⟨h,GN h⟩)
 ·exact .inr (.inr ⟨h,N4 h⟩)
theorem Gg (p q:Rat):aW p q=aW (p - q) 0:=by
 rcases Bw (p - q) with ⟨h1,J⟩ | ⟨h1,J⟩ | ⟨h1,J⟩ <;> rw [J]
 ·exact N3 (by grind)
 ·exact GN (by grind)
 ·exact N4 (by grind)
theorem Vc {a b:Q2}:fH a b=0↔a.1=b.1∧a.2=b.2:=by
 unfold fH;by_cases h:aW a.1 b.1=0
 ·rw [if_neg (by simp [h]),yF]
  exact ⟨fun J=>⟨yF.1 h,J⟩,fun J=>J.2⟩
 ·rw [if_pos h];exact ⟨fun J=>absurd J h,fun J=>yF.2 J.1⟩
theorem p8 (p q:Rat):aW p q=-1∨aW p q=0∨aW p q=1:=by
 unfold aW; split
 ·exact .inl rfl
 ·split
  ·exact .inr (.inr rfl)
  ·exact .inr (.inl rfl)
theorem LD (a b:Q2):fH a b=-1∨fH a b=0∨fH a b=1:=by
 unfold fH; split <;> exact p8 _ _
open Go
def xW (a b:Q2):Q2:=(a.1+b.1,a.2+b.2)
open Go
def H1 (u:Q2):Prop:=0 < u.2∨u.2=0∧0 < u.1
def H2 (u:Q2):Prop:=u.2 < 0∨u.2=0∧u.1 < 0
def JF (k:Rat) (u:Q2):Q2:=(u.1*k,u.2*k)
open Go
theorem sL {x:Q2} {k:Nat} (h:Q2.sz k x):∃ u:PV,(cj x).v=u.v∧u.p=x∧u.sz k∧Q2.sz k u.p :=
 ⟨cj x,rfl,gF x,sj h (Nat.le_refl _),by rw [gF]; exact h⟩
theorem gR {q:Rat} {k:Nat} (h:QB q k):∃ r:RV,(RV.of q).v=r.v∧r.q=q∧r.sz k∧QB r.q k :=
 ⟨RV.of q,rfl,RV.iw q,RV.nE h,by rw [RV.iw]; exact h⟩
theorem RV.ac5 {a b:RV} (h:a.v=b.v):a.1=b.1∧a.2.1=b.2.1∧a.2.2=b.2.2:=by
 have h:Value.agg ⟨[.bool a.1,.string a.2.1,.string a.2.2]⟩=Value.agg ⟨[.bool b.1,.string b.2.1,.string b.2.2]⟩:=h;simp only [Value.agg.injEq,Array.mk.injEq,List.cons.injEq,Value.bool.injEq,Value.string.injEq] at h;exact ⟨h.1,h.2.1,h.2.2.1⟩
theorem RV.oq {a b:RV} (h:a.v=b.v):a=b:=by
 obtain ⟨h1,J,h3⟩:=RV.ac5 h;exact Prod.ext h1 (Prod.ext J h3)
theorem PV.oq {a b:PV} (h:a.v=b.v):a=b:=by
 have h:Value.agg ⟨[.bool a.1.1,.string a.1.2.1,.string a.1.2.2,.bool a.2.1,.string a.2.2.1,.string a.2.2.2]⟩=Value.agg ⟨[.bool b.1.1,.string b.1.2.1,.string b.1.2.2,.bool b.2.1,.string b.2.2.1,.string b.2.2.2]⟩:=h;simp only [Value.agg.injEq,Array.mk.injEq,List.cons.injEq,Value.bool.injEq,Value.string.injEq] at h;obtain ⟨h1,J,h3,h4,h5,h6,_⟩:=h;exact Prod.ext (Prod.ext h1 (Prod.ext J h3)) (Prod.ext h4 (Prod.ext h5 h6))
theorem ef (n:Int):∃ m:Int,Value.int .i64 n=Value.int .i64 m∧m=n:=⟨n,rfl,rfl⟩
theorem xu {x:Q2} {k:Nat} (h:Q2.sz k x):∃ u:PV,u=cj x∧(cj x).v=u.v∧u.p=x∧u.sz k∧Q2.sz k u.p :=
 ⟨cj x,rfl,rfl,gF x,sj h (Nat.le_refl _),by rw [gF]; exact h⟩
theorem Hg {q:Rat} {k:Nat} (h:QB q k):∃ r:RV,r=RV.of q∧(RV.of q).v=r.v∧r.q=q∧r.sz k∧QB r.q k :=
 ⟨RV.of q,rfl,rfl,RV.iw q,RV.nE h,by rw [RV.iw]; exact h⟩
theorem vi (a b:Int) (ha:a.natAbs < 256) (hb:b.natAbs < 256):Q2.sz 1 ((a:Rat),(b:Rat)) :=
 ⟨zg ha,zg hb⟩
theorem zV (p q:PV):eU [.bool p.1.1,.string p.1.2.1,.string p.1.2.2,.bool p.2.1,.string p.2.2.1,.string p.2.2.2] [.bool q.1.1,.string q.1.2.1,.string q.1.2.2,.bool q.2.1,.string q.2.2.1,.string q.2.2.2]=decide (p=q):=TW p q
theorem QB.of_int {n:Int} {k:Nat} (h:aQ n.natAbs≤k) (hk:1≤k):QB (n:Rat) k:=⟨by rw [Rat.num_intCast]; exact h,by rw [Rat.den_intCast]; exact Nat.le_trans (gN (show 1 < C ^ 1 by decide)) hk⟩
theorem QB.inv {q:Rat} {k:Nat} (h:QB q k) (hk:1≤k):QB q⁻¹ k:=by
 by_cases hq:q=0
 ·subst hq;have:(0:Rat)⁻¹=0:=by simp
  rw [this]; exact h
 ·have e:q⁻¹=Rat.divInt q.den q.num:=Rat.inv_def q;rw [e];have hn:q.num≠0:=fun e=>hq (Rat.num_eq_zero.1 e)
  rcases Int.lt_or_gt_of_ne hn with h1 | h1
  ·have e2:Rat.divInt q.den q.num=mkRat (-(q.den:Int)) q.num.natAbs:=by
    obtain ⟨m,hm⟩:∃ m:Nat,q.num=-(m:Int):=⟨q.num.natAbs,by omega⟩
    rw [hm];rw [Rat.divInt_neg'];simp
   rw [e2];exact QB.mk (by omega) (by rw [Int.natAbs_neg,Int.natAbs_natCast]; exact h.2) h.1
  ·have e2:Rat.divInt q.den q.num=mkRat (q.den:Int) q.num.natAbs:=by
    obtain ⟨m,hm⟩:∃ m:Nat,q.num=(m:Int):=⟨q.num.natAbs,by omega⟩
    rw [hm];simp
   rw [e2];exact QB.mk (by omega) (by rw [Int.natAbs_natCast]; exact h.2) h.1
theorem QB.div {p q:Rat} {k l:Nat} (hp:QB p k) (hq:QB q l) (hl:1≤l):QB (p / q) (k+l):=by
 rw [Rat.div_def]; exact hp.mul (hq.inv hl)
def atR (a b:Q2) (t:Rat):Q2:=(a.1+(b.1 - a.1)*t,a.2+(b.2 - a.2)*t)
theorem zH {a b:Q2} {t:Rat} {k l m:Nat} (ha:Q2.sz k a) (hb:Q2.sz l b) (ht:QB t m):Q2.sz (k+(l+k+1+m)+1) (atR a b t) :=
 ⟨ha.1.add ((hb.1.sub ha.1).mul ht),ha.2.add ((hb.2.sub ha.2).mul ht)⟩
open Go
abbrev R3:=RV × RV × RV
def R3.v (i:R3):Value:=.agg ⟨[.bool i.1.1,.string i.1.2.1,.string i.1.2.2,.bool i.2.1.1,.string i.2.1.2.1,.string i.2.1.2.2,.bool i.2.2.1,.string i.2.2.2.1,.string i.2.2.2.2]⟩
def R3.get (i:R3):Nat→RV | 0=>i.1 | 1=>i.2.1 | _=>i.2.2
def R3.sz (k:Nat) (i:R3):Prop:=i.1.sz k∧i.2.1.sz k∧i.2.2.sz k
def R3.rows (i:R3):Nat→List Value:=fun r=>(i.get r).cells
def R3.cells (i:R3):List Value:=[.bool i.1.1,.string i.1.2.1,.string i.1.2.2,.bool i.2.1.1,.string i.2.1.2.1,.string i.2.1.2.2,.bool i.2.2.1,.string i.2.2.2.1,.string i.2.2.2.2]
theorem R3.aJ (i:R3):aG (.flat false 1 9 (fun _=>i.cells)) (.aO true 9 [i.cells]) :=
 B5 rfl (fun r hr=>by
  have:r=0:=by omega
  subst this; rfl) (fun r hr=>rfl)
def TV.w (t:TV):Value:=.agg ⟨[.bool t.1.1.1,.string t.1.1.2.1,.string t.1.1.2.2,.bool t.1.2.1,.string t.1.2.2.1,.string t.1.2.2.2,.bool t.2.1.1.1,.string t.2.1.1.2.1,.string t.2.1.1.2.2,.bool t.2.1.2.1,.string t.2.1.2.2.1,.string t.2.1.2.2.2,.bool t.2.2.1.1,.string t.2.2.1.2.1,.string t.2.2.1.2.2,.bool t.2.2.2.1,.string t.2.2.2.2.1,.string t.2.2.2.2.2]⟩
def sg (q:Rat):Int:=aW q 0
def inR (a b c p:Q2):Prop:=sg (ak a b c)≠0∧sg (ak a b p)=sg (ak a b c)∧sg (ak b c p)=sg (ak a b c)∧sg (ak c a p)=sg (ak a b c)
instance (a b c p:Q2):Decidable (inR a b c p):=inferInstanceAs (Decidable (_∧_))
def onR (a b c p:Q2):Prop:=DD a b p∨DD b c p∨DD c a p
instance (a b c p:Q2):Decidable (onR a b c p):=inferInstanceAs (Decidable (_∨_))
def aaE (u v w:Q2):Prop:=(lU u≠0∧lU v≠0∧lU w≠0)∧if sY u v < 0 then sY u w < 0∧sY w v < 0 else sY u w < 0∨sY w v < 0
instance (u v w:Q2):Decidable (aaE u v w):=inferInstanceAs (Decidable (_∧_))
def hs (u:Q2):Int:=if lU u=2 then -1 else 1
structure Tri (u v w:Q2) (a b c x y z:Int):Prop where
 hu:lU u=a
 hv:lU v=b
 hw:lU w=c
 ra:a=1∨a=2
 rb:b=1∨b=2
 rc:c=1∨c=2
 uv:sg (n8 u v)=x
 uw:sg (n8 u w)=y
 wv:sg (n8 w v)=z
open Go
instance (k:Nat) (p:PV):Decidable (p.sz k):=inferInstanceAs (Decidable ((_∧_)∧(_∧_)))
def uL (k:Nat) (l:List PV):Bool:=l.any fun p=>decide (¬ p.sz k)
theorem EY {k:Nat} {l:List PV} {p:PV} (h:p∈l) (hg:¬ p.sz k):uL k l=true:=List.any_eq_true.2 ⟨p,h,decide_eq_true hg⟩
theorem Sw {k:Nat} {l:List PV} (h:uL k l=false):∀ p∈l,p.sz k:=fun p hp=>by
 refine Classical.byContradiction fun hg=>?_
 rw [EY hp hg] at h; cases h
def uB (k:Nat) (l:List PV) (i:Nat):Prop:=∀ p∈l.take i,p.sz k
theorem Kq (k:Nat) (l:List PV):uB k l 0:=fun p hp=>by simp at hp
theorem KG {k:Nat} {l:List PV} {i:Nat} {p:PV} (h:uB k l i) (hp:l[i]?=some p) (hg:p.sz k):uB k l (i+1):=fun q hq=>by
 rw [List.take_add_one,hp] at hq;simp only [Option.toList_some,List.mem_append,List.mem_singleton] at hq;rcases hq with hq | rfl
 ·exact h q hq
 ·exact hg
theorem K3 {k:Nat} {l:List PV} (h:uB k l l.length):uL k l=false:=by
 cases e:uL k l
 ·rfl
 ·obtain ⟨p,hp,hg⟩:=List.any_eq_true.1 e;rw [uB,List.take_length] at h;exact absurd (h p hp) (of_decide_eq_true hg)
theorem N5 (l:List PV):aG (.flat false l.length 6 (cB l)) (.aO true 6 (l.map PV.cells)) :=
 B5 (by simp) (fun r hr=>by
  unfold cB;rw [List.getD_eq_getElem?_getD,List.getD_eq_getElem?_getD,List.getElem?_map,List.getElem?_eq_getElem hr]
  rfl) (fun r hr=>rfl)
def PL.u1 (i:PL) (k:Nat):Value:=match i with | none=>.slice none 0 0 | some j=>.slice (some ⟨k,0,none⟩) j.1.length j.2
abbrev mo:=PL × PL
def kt:a9:={ ι:=mo,args:=fun i=>[i.1.val,i.2.u1 i.1.ae.length],ae:=fun i=>i.1.ae++i.2.ae,pre:=fun i=>i.1.list.length≤1099511627776∧i.2.list.length≤1099511627776,val:=fun i=>.bool (decide (i.1.list=i.2.list)),new:=fun _=>none }
def vj (l m:List PV) (i:Nat):Prop:=l.take i=m.take i
theorem TY (l m:List PV):vj l m 0:=rfl
theorem Vd {l m:List PV} {i:Nat} {p q:PV} (h:vj l m i) (hp:l[i]?=some p) (hq:m[i]?=some q) (e:p=q):vj l m (i+1):=by
 unfold vj at *;rw [List.take_add_one,List.take_add_one,hp,hq,h,e]
theorem Wm {l m:List PV} (h:vj l m l.length) (hl:l.length=m.length):l=m:=by
 unfold vj at h;rw [List.take_length] at h;rw [h,hl,List.take_length]
theorem ac6 {l m:List PV} {i:Nat} {p q:PV} (hp:l[i]?=some p) (hq:m[i]?=some q) (e:p≠q):l≠m:=fun h=>by
 subst h; rw [hp] at hq; exact e (Option.some.inj hq)
section
variable (f:PV→PV→Int)
def sZ (x:PV):List PV→List PV
 | []=>[x]
 | y::r=>if f x y < 0 then y::sZ x r else x::y::r
def xX (l:List PV):List PV:=l.foldl (fun a x=>sZ f x a) []
theorem Ve {l:List PV} {x:PV}:xX f (l++[x])=sZ f x (xX f l):=by unfold xX; rw [List.foldl_append]; rfl
end
structure afb (f:PV→PV→Int):Prop where
 afl:∀ x y,f y x=-f x y
 trans:∀ x y z,f x y≤0→f y z≤0→f x z≤0
def Ps (f:PV→PV→Int) (l:List PV) (i:Nat):List PV:=(xX f (l.take i)).reverse++l.drop i
structure AI (f:PV→PV→Int) (l:List PV) (i j:Nat) (x:PV) (r B L:List PV):Prop where
 at_:l[i]?=some x
 acc:xX f (l.take i)=B++r
 ins:sZ f x (xX f (l.take i))=B++sZ f x r
 len:r.length=j
 all:L=r.reverse++x::(B.reverse++l.drop (i+1))
theorem AI.step {f:PV→PV→Int} {l:List PV} {i j:Nat} {x y:PV} {r B L:List PV} (h:AI f l i j x (y::r) B L) (hf:f x y < 0) :
  AI f l i (j - 1) x r (B++[y]) (r.reverse++x::y::(B.reverse++l.drop (i+1))):=by
 refine ⟨h.at_,by rw [h.acc]; simp,?_,?_,by simp⟩
 ·have e:sZ f x (y::r)=y::sZ f x r:=by
   show (if f x y < 0 then _ else _)=_
   rw [if_pos hf]
  rw [h.ins,e];simp
 ·have:=h.len; simp at this; omega
theorem AI.done {f:PV→PV→Int} {l:List PV} {i j:Nat} {x:PV} {r B L:List PV} (h:AI f l i j x r B L) (hs:sZ f x r=x::r):L=Ps f l (i+1):=by
 rw [h.all];unfold Ps;rw [List.take_add_one,h.at_];simp only [Option.toList_some];rw [Ve,h.ins,hs];simp
open Go
open Go
open Go
open Go
open Go
abbrev Q3:=Rat × Rat × Rat
def R3.q (l:R3):Q3:=(l.1.q,l.2.1.q,l.2.2.q)
def Q3.sz (k:Nat) (l:Q3):Prop:=QB l.1 k∧QB l.2.1 k∧QB l.2.2 k
theorem R3.aY {l:R3} {k m:Nat} (h:l.sz k) (hk:k≤m):l.sz m:=⟨RV.aY h.1 hk,RV.aY h.2.1 hk,RV.aY h.2.2 hk⟩
theorem Q3.mono {l:Q3} {k m:Nat} (h:Q3.sz k l) (hk:k≤m):Q3.sz m l:=⟨h.1.mono hk,h.2.1.mono hk,h.2.2.mono hk⟩
theorem Q2.mono {l:Q2} {k m:Nat} (h:Q2.sz k l) (hk:k≤m):Q2.sz m l:=⟨h.1.mono hk,h.2.mono hk⟩
def zI:R3:=(dp,dp,dp)
def rE (l:Q3):Q2:=(l.1,l.2.1)
def R3.n (l:R3):PV:=(l.1,l.2.1)
def ai (l:Q3) (p:Q2):Rat:=DA (rE l) p - l.2.2
def lF (l:Q3):Prop:=¬ (l.1=0∧l.2.1=0)
instance (l:Q3):Decidable (lF l):=inferInstanceAs (Decidable (¬ (_∧_)))
def bG (p q:Q2):Q3:=(p.2 - q.2,q.1 - p.1,(p.2 - q.2)*p.1+(q.1 - p.1)*p.2)
def qX (l m:Q3):Rat:=n8 (rE l) (rE m)
def IB (l m:Q3):Q2:=((l.2.2*m.2.1 - l.2.1*m.2.2) / qX l m,(l.1*m.2.2 - l.2.2*m.1) / qX l m)
def De:PV:=(dp,dp)
def LE.v (x:R3 × Int):Value:=.tuple ⟨[x.1.v,.int .i64 x.2]⟩
def PE.v (x:PV × Int):Value:=.tuple ⟨[x.1.v,.int .i64 x.2]⟩
def ZE.v (x:Int × Int):Value:=.tuple ⟨[.int .i64 x.1,.int .i64 x.2]⟩
def RV.pL (i:RV):Prop:=20 < i.2.1.size∨20 < i.2.2.size
instance (i:RV):Decidable i.pL:=inferInstanceAs (Decidable (_∨_))
def R3.pL (l:R3):Prop:=l.1.pL∨l.2.1.pL∨l.2.2.pL
instance (l:R3):Decidable l.pL:=inferInstanceAs (Decidable (_∨_∨_))
def PV.pL (p:PV):Prop:=p.1.pL∨p.2.pL
instance (l:PV):Decidable l.pL:=inferInstanceAs (Decidable (_∨_))
open Go
theorem Wn (k:Nat):zI.sz k:=⟨ui _,ui _,ui _⟩
theorem Wo (k:Nat):De.sz k:=⟨ui _,ui _⟩
theorem yM {k:Nat}:QB dp.q (k+1):=RV.j3 (ui _) (by omega)
theorem Wp (k:Nat):Q3.sz (k+1) zI.q:=⟨yM,yM,yM⟩
theorem Wq (k:Nat):Q2.sz (k+1) De.p:=⟨yM,yM⟩
theorem OQ {p q:Q2} {k l:Nat} (hp:Q2.sz k p) (hq:Q2.sz l q):Q3.sz (k+l+1+k+(k+l+1+k)+1) (bG p q) :=
 ⟨(hp.2.sub hq.2).mono (by omega),(hq.1.sub hp.1).mono (by omega),(((hp.2.sub hq.2).mul hp.1).add (((hq.1.sub hp.1).mono (show l+k+1≤k+l+1 by omega)).mul hp.2)).mono (by omega)⟩
theorem OR {l:Q3} {p:Q2} {k m:Nat} (hl:Q3.sz k l) (hp:Q2.sz m p):QB (ai l p) (k+m+(k+m)+1+k+1):=(aaC (a:=rE l) ⟨hl.1,hl.2.1⟩ hp).sub hl.2.2
theorem OS {l:Q3} {k:Nat} (hl:Q3.sz k l):Q2.sz k (rE l):=⟨hl.1,hl.2.1⟩
theorem OT {l m:Q3} {k j:Nat} (hl:Q3.sz k l) (hm:Q3.sz j m):QB (qX l m) (k+j+(k+j)+1):=yL (OS hl) (OS hm)
theorem aaF {l m:Q3} {k j:Nat} (hl:Q3.sz k l) (hm:Q3.sz j m):Q2.sz (k+j+(k+j)+1+(k+j+(k+j)+1)) (IB l m) :=
 ⟨((hl.2.2.mul hm.2.1).sub (hl.2.1.mul hm.2.2)).div (OT hl hm) (by omega),((hl.1.mul hm.2.2).sub (hl.2.2.mul hm.1)).div (OT hl hm) (by omega)⟩
theorem z3 {k:Nat} (h:1≤k):zI.sz k∧Q3.sz k zI.q:=⟨Wn _,Q3.mono (Wp 0) h⟩
theorem z2 {k:Nat} (h:1≤k):De.sz k∧Q2.sz k De.p:=⟨Wo _,Q2.mono (Wq 0) h⟩
theorem R3.oq {a b:R3} (h:a.v=b.v):a=b:=by
 have h:Value.agg ⟨[.bool a.1.1,.string a.1.2.1,.string a.1.2.2,.bool a.2.1.1,.string a.2.1.2.1,.string a.2.1.2.2,.bool a.2.2.1,.string a.2.2.2.1,.string a.2.2.2.2]⟩=Value.agg ⟨[.bool b.1.1,.string b.1.2.1,.string b.1.2.2,.bool b.2.1.1,.string b.2.1.2.1,.string b.2.1.2.2,.bool b.2.2.1,.string b.2.2.2.1,.string b.2.2.2.2]⟩:=h;simp only [Value.agg.injEq,Array.mk.injEq,List.cons.injEq,Value.bool.injEq,Value.string.injEq] at h;obtain ⟨h1,J,h3,h4,h5,h6,h7,h8,h9,_⟩:=h;exact Prod.ext (Prod.ext h1 (Prod.ext J h3)) (Prod.ext (Prod.ext h4 (Prod.ext h5 h6)) (Prod.ext h7 (Prod.ext h8 h9)))
theorem jE:QB (2:Rat) 1:=zg (n:=2) (by decide)
open Go
theorem dj (a b c:Q2):ak a b c=(b.1 - a.1)*(c.2 - a.2) - (b.2 - a.2)*(c.1 - a.1):=rfl
theorem pf (a b c:Q2):ak a b c=ak b c a:=by rw [dj,dj]; grind
theorem wU (a b c:Q2):ak a c b=-ak a b c:=by rw [dj,dj]; grind
theorem yT (a b:Q2):ak a a b=0:=by rw [dj]; grind
theorem ke (a b:Q2):ak a b a=0:=by rw [dj]; grind
theorem kf (a b:Q2):ak a b b=0:=by rw [dj]; grind
theorem B6 (a b c d:Q2) (t:Rat):ak (atR a b t) c d=(1 - t)*ak a c d+t*ak b c d:=by
 simp only [dj,atR]; grind
theorem Wr (a b c d:Q2) (t:Rat):ak c (atR a b t) d=(1 - t)*ak c a d+t*ak c b d:=by
 simp only [dj,atR]; grind
theorem uj (a b c d:Q2) (t:Rat):ak c d (atR a b t)=(1 - t)*ak c d a+t*ak c d b:=by
 simp only [dj,atR]; grind
theorem p9 {x y t:Rat} (h0:0≤t) (h1:t≤1) (hx:0≤x) (hy:0≤y):0≤(1 - t)*x+t*y:=by
 have a:=Rat.mul_nonneg (show 0≤1 - t by grind) hx
 have b:=Rat.mul_nonneg h0 hy;grind
def pH (a:Q2) (l:List Q2):Prop:=l.Pairwise (fun b c=>0≤ak a b c)
def bB:List Q2→Prop
 | []=>True
 | a::l=>pH a l∧bB l
theorem bB.sublist {l m:List Q2} (h:bB m) (hs:l.Sublist m):bB l:=by
 induction hs with
 | slnil=>exact trivial
 | cons a hs ih=>exact ih h.2
 | cons_cons a hs ih=>exact ⟨h.1.sublist hs,ih h.2⟩
theorem bB.filter {l:List Q2} (h:bB l) (f:Q2→Bool):bB (l.filter f):=h.sublist List.filter_sublist
theorem pH.ins {a p q:Q2} {t:Rat} {A B:List Q2} (h0:0≤t) (h1:t≤1) (h:pH a (A++p::q::B)):pH a (A++p::atR p q t::q::B):=by
 unfold pH at *;rw [List.pairwise_append] at h ⊢;obtain ⟨hA,hB,mq⟩:=h;rw [List.pairwise_cons,List.pairwise_cons] at hB;obtain ⟨hp,hq,hB⟩:=hB;refine ⟨hA,?_,?_⟩
 ·rw [List.pairwise_cons,List.pairwise_cons,List.pairwise_cons];refine ⟨?_,?_,hq,hB⟩
  ·intro z hz;rcases List.mem_cons.1 hz with rfl | hz
   ·rw [uj,kf];exact p9 h0 h1 (by grind) (hp _ (List.mem_cons_self ..))
   ·exact hp z hz
  ·intro z hz;rw [Wr];rcases List.mem_cons.1 hz with rfl | hz
   ·exact p9 h0 h1 (hp _ (List.mem_cons_self ..)) (by rw [kf]; grind)
   ·exact p9 h0 h1 (hp _ (List.mem_cons_of_mem _ hz)) (hq _ hz)
 ·intro y hy z hz;rcases List.mem_cons.1 hz with rfl | hz
  ·exact mq y hy _ (List.mem_cons_self ..)
  ·rcases List.mem_cons.1 hz with rfl | hz
   ·rw [uj];exact p9 h0 h1 (mq y hy _ (List.mem_cons_self ..)) (mq y hy _ (List.mem_cons_of_mem _ (List.mem_cons_self ..)))
   ·exact mq y hy _ (List.mem_cons_of_mem _ hz)
theorem bB.ins {p q:Q2} {t:Rat} {A B:List Q2} (h0:0≤t) (h1:t≤1) (h:bB (A++p::q::B)):bB (A++p::atR p q t::q::B):=by
 induction A with
 | cons a A ih=>exact ⟨h.1.ins h0 h1,ih h.2⟩
 | nil =>
  obtain ⟨hp,hq,hB⟩:=h;refine ⟨pH.ins (A:=[]) (p:=p) h0 h1 (by
   show List.Pairwise _ (p::q::B)
   rw [List.pairwise_cons];exact ⟨fun z hz=>by rw [yT]; grind,hp⟩) |>.sublist (List.sublist_cons_self ..),?_,hq,hB⟩
  unfold pH at *;rw [List.pairwise_cons] at hp ⊢;obtain ⟨hp,hpB⟩:=hp;refine ⟨fun z hz=>?_,?_⟩
  ·rw [B6,yT];exact p9 h0 h1 (hp z hz) (by grind)
  ·exact (hpB.and hq).imp (fun ⟨x,y⟩=>by rw [B6]; exact p9 h0 h1 x y)
theorem bB.snoc {A:List Q2} {x:Q2} (h:bB A) (hx:A.Pairwise (fun y z=>0≤ak y z x)):bB (A++[x]):=by
 induction A with
 | nil=>exact ⟨.nil,trivial⟩
 | cons a A ih =>
  rw [List.pairwise_cons] at hx;refine ⟨?_,ih h.2 hx.2⟩;show List.Pairwise _ (A++[x])
  rw [List.pairwise_append];exact ⟨h.1,by simp,fun y hy z hz=>by simp at hz; subst hz; exact hx.1 y hy⟩
theorem bB.aeK {a:Q2} {l:List Q2} (h:bB (a::l)):bB (l++[a]) :=
 h.2.snoc (h.1.imp (fun {y z} h=>by rw [pf,pf]; rw [← pf] at *; first | exact h | (rw [pf]; exact h)))
theorem bB.tA {A B:List Q2} (h:bB (A++B)):bB (B++A):=by
 induction A generalizing B with
 | nil=>rw [List.append_nil]; exact h
 | cons a A ih =>
  have:bB ((A++B)++[a]):=h.aeK;rw [List.append_assoc] at this;have:=ih this
  rwa [List.append_assoc] at this
theorem bB.last {p h0:Q2} {t:Rat} {A:List Q2} (h1:0≤t) (J:t≤1) (h:bB (A++[p])) (hh:(A++[p]).head?=some h0):bB (A++[p,atR p h0 t]):=by
 have:=h.tA;cases A with
 | nil =>
  simp at hh; subst hh;exact ⟨by unfold pH; simp,by unfold pH; simp,trivial⟩
 | cons a A =>
  simp at hh; subst hh;have:=bB.ins (A:=[]) h1 J this;have:=bB.tA (A:=[p,atR p a t]) (B:=a::A) this;exact this
open Go
def b9 {α:Type} (l:List α):List (α × α):=l.zip l.tail
def aU {α:Type} (l:List α):List (α × α):=b9 (l++l.head?.toList)
theorem kP {α:Type} (p q:α) (l:List α):b9 (p::q::l)=(p,q)::b9 (q::l):=rfl
theorem tU {α:Type} (A B:List α) (x:α):b9 (A++x::B)=b9 (A++[x])++b9 (x::B):=by
 induction A with
 | nil=>rfl
 | cons a A ih =>
  cases A with
  | nil=>rfl
  | cons b A =>
   show (a,b)::b9 (b::A++x::B)=(a,b)::b9 (b::A++[x])++_
   rw [ih]; rfl
theorem Fi {α:Type} {l:List α} {e:α × α} (h:e∈b9 l):e.1∈l∧e.2∈l:=by
 have:=List.of_mem_zip h;exact ⟨this.1,List.mem_of_mem_tail this.2⟩
theorem tV {α:Type} (h:α) (l:List α):aU (h::l)=b9 (h::l++[h]):=rfl
theorem gL {α:Type} {l:List α} {e:α × α} (h:e∈aU l):e.1∈l∧e.2∈l:=by
 cases l with
 | nil=>cases h
 | cons a l =>
  have:=Fi h;simp at this ⊢;exact ⟨by rcases this.1 with h | h | h <;> simp [h],by rcases this.2 with h | h | h <;> simp [h]⟩
theorem wH {α:Type} {A B:List α} {e:α × α} (h:e∈aU (A++B)):e∈aU (B++A):=by
 cases A with
 | nil=>rw [List.append_nil]; exact h
 | cons a A =>
  cases B with
  | nil=>rw [List.append_nil] at h; exact h
  | cons b B =>
   have h1:aU (a::A++b::B)=b9 (a::A++[b])++b9 (b::B++[a]):=by
    show b9 ((a::A++b::B)++[a])=_
    rw [List.append_assoc];exact tU (a::A) (B++[a]) b
   have J:aU (b::B++a::A)=b9 (b::B++[a])++b9 (a::A++[b]):=by
    show b9 ((b::B++a::A)++[b])=_
    rw [List.append_assoc];exact tU (b::B) (A++[b]) a
   rw [h1] at h;rw [J];rcases List.mem_append.1 h with h | h
   ·exact List.mem_append_right _ h
   ·exact List.mem_append_left _ h
theorem TZ {α:Type} {l:List α} {i:Nat} {p q:α} (hp:l[i]?=some p) (hq:l[i+1]?=some q):(b9 l)[i]?=some (p,q):=by
 unfold b9;rw [List.getElem?_zip_eq_some];exact ⟨hp,by rw [List.getElem?_tail]; exact hq⟩
theorem ng {α:Type} (l:List α):(aU l).length=l.length:=by
 cases l with
 | nil=>rfl
 | cons a l=>rw [tV]; unfold b9; simp
theorem qe {α:Type} {l:List α} {i:Nat} {p q:α} (hp:l[i]?=some p) (hq:l[(i+1) % l.length]?=some q):(aU l)[i]?=some (p,q):=by
 cases l with
 | nil=>simp at hp
 | cons a l =>
  have hi:i < (a::l).length:=(List.getElem?_eq_some_iff.1 hp).1;rw [tV];refine TZ (by rw [List.getElem?_append_left hi]; exact hp) ?_
  rcases Nat.lt_or_eq_of_le (show i+1≤(a::l).length from hi) with h | h
  ·rw [Nat.mod_eq_of_lt h] at hq;rw [List.getElem?_append_left h]; exact hq
  ·rw [h,Nat.mod_self] at hq;rw [List.getElem?_append_right (by omega),h,Nat.sub_self]
   exact hq
theorem fg (l:Q3) (p:Q2):ai l p=l.1*p.1+l.2.1*p.2 - l.2.2:=rfl
theorem wV (m:Q3) (a b:Q2) (t:Rat):ai m (atR a b t)=(1 - t)*ai m a+t*ai m b:=by
 simp only [fg,atR]; grind
def ja (m:Q3) (p q:Q2):Rat:=ai m p / (ai m p - ai m q)
def gO (m:Q3) (p q:Q2):List Q2:=if aW (ai m p) 0*aW (ai m q) 0 < 0 then [atR p q (ja m p q)] else []
def mK (m:Q3) (p:Q2):List Q2:=if aW (ai m p) 0 ≥ 0 then [p] else []
def db (m:Q3) (l:List Q2):List Q2:=(aU l).flatMap fun e=>mK m e.1++gO m e.1 e.2
def Ql (m:Q3) (l:List Q2):List Q2:=(aU l).flatMap fun e=>e.1::gO m e.1 e.2
theorem BJ {m:Q3} {p q:Q2}:aW (ai m p) 0*aW (ai m q) 0 < 0↔(0 < ai m p∧ai m q < 0)∨(ai m p < 0∧0 < ai m q):=by
 rcases Bw (ai m p) with ⟨h1,J⟩ | ⟨h1,J⟩ | ⟨h1,J⟩ <;> rcases Bw (ai m q) with ⟨h3,h4⟩ | ⟨h3,h4⟩ | ⟨h3,h4⟩ <;> rw [J,h4] <;> constructor <;> intro h <;> first | grind | omega
theorem Ws {x y:Rat} (h:(0 < x∧y < 0)∨(x < 0∧0 < y)):0≤x / (x - y)∧x / (x - y)≤1∧(x / (x - y))*(x - y)=x:=by
 have aE:x - y≠0:=by grind
 have e:(x / (x - y))*(x - y)=x:=by rw [Rat.div_def]; grind
 refine ⟨?_,?_,e⟩
 ·rcases h with ⟨h1,J⟩ | ⟨h1,J⟩
  ·by_cases h3:x / (x - y) < 0
   ·have:=Rat.mul_pos (show 0 < -(x / (x - y)) by grind) (show 0 < x - y by grind); grind
   ·grind
  ·by_cases h3:x / (x - y) < 0
   ·have:=Rat.mul_pos (show 0 < -(x / (x - y)) by grind) (show 0 < y - x by grind); grind
   ·grind
 ·rcases h with ⟨h1,J⟩ | ⟨h1,J⟩
  ·by_cases h3:1 < x / (x - y)
   ·have:=Rat.mul_pos (show 0 < x / (x - y) - 1 by grind) (show 0 < x - y by grind); grind
   ·grind
  ·by_cases h3:1 < x / (x - y)
   ·have:=Rat.mul_pos (show 0 < x / (x - y) - 1 by grind) (show 0 < y - x by grind); grind
   ·grind
theorem tQ {m:Q3} {p q x:Q2} (h:x∈gO m p q):((0 < ai m p∧ai m q < 0)∨(ai m p < 0∧0 < ai m q))∧x=atR p q (ja m p q)∧0≤ja m p q∧ja m p q≤1∧ai m x=0:=by
 unfold gO at h
 split at h
 ·rename_i h1;have h1:=BJ.1 h1;simp at h;obtain ⟨J,h3,h4⟩:=Ws h1;refine ⟨h1,h,J,h3,?_⟩;rw [h,wV];unfold ja;grind
 ·cases h
theorem BK {m:Q3} {p q:Q2} (h:(0 < ai m p∧ai m q < 0)∨(ai m p < 0∧0 < ai m q)):gO m p q=[atR p q (ja m p q)]:=by
 unfold gO; rw [if_pos (BJ.2 h)]
theorem KH (m:Q3) (p q:Q2):gO m p q=[]∨(gO m p q=[atR p q (ja m p q)]∧0≤ja m p q∧ja m p q≤1):=by
 by_cases h:aW (ai m p) 0*aW (ai m q) 0 < 0
 ·have h1:=BK (BJ.1 h);have:=tQ (x:=atR p q (ja m p q)) (by rw [h1]; simp)
  exact .inr ⟨h1,this.2.2.1,this.2.2.2.1⟩
 ·left; unfold gO; rw [if_neg h]
theorem T0 (m:Q3) (l:List Q2):db m l=(Ql m l).filter fun p=>decide (0≤ai m p):=by
 unfold db Ql;rw [List.filter_flatMap]
 congr 1
 funext e
 rw [List.filter_cons];have h1:(gO m e.1 e.2).filter (fun p=>decide (0≤ai m p))=gO m e.1 e.2:=by
  rw [List.filter_eq_self];intro x hx;have:=(tQ hx).2.2.2.2;rw [this]; decide
 rw [h1];unfold mK;by_cases h:0≤ai m e.1
 ·rw [if_pos (mF.2 h),if_pos (by simpa using h)]; rfl
 ·rw [if_neg (fun J=>h (mF.1 J)),if_neg (by simpa using h)]; rfl
theorem Wt (m:Q3) {h:Q2}:∀ (B:List Q2) (p:Q2) (A:List Q2),bB (A++p::B)→(A++p::B).head?=some h→bB (A++(b9 (p::B++[h])).flatMap fun e=>e.1::gO m e.1 e.2):=by
 intro B
 induction B with
 | nil =>
  intro p A ht hh;show bB (A++((p::gO m p h)++[]))
  rw [List.append_nil];rcases KH m p h with e | ⟨e,h1,J⟩
  ·rw [e]; exact ht
  ·rw [e]; exact ht.last h1 J hh
 | cons q B ih =>
  intro p A ht hh;show bB (A++((p::gO m p q)++(b9 (q::B++[h])).flatMap fun e=>e.1::gO m e.1 e.2))
  rw [← List.append_assoc];rcases KH m p q with e | ⟨e,h1,J⟩
  ·rw [e];exact ih q (A++[p]) (by rw [List.append_assoc]; exact ht) (by rw [List.append_assoc]; exact hh)
  ·rw [e];refine ih q (A++[p,atR p q (ja m p q)]) ?_ ?_
   ·rw [List.append_assoc]; exact ht.ins h1 J
   ·cases A with
    | nil=>exact hh
    | cons a A=>exact hh
theorem Nd {m:Q3} {l:List Q2} (h:bB l):bB (db m l):=by
 rw [T0];refine bB.filter ?_ _;cases l with
 | nil=>exact trivial
 | cons a l=>exact Wt m l a [] h rfl
open Go
def bM (P:List Q2) (p:Q2):Prop:=∀ f:Q3,(∀ v∈P,0≤ai f v)→0≤ai f p
theorem bM.gu {P:List Q2} {v:Q2} (h:v∈P):bM P v:=fun f hf=>hf v h
theorem bM.trans {P Q:List Q2} {p:Q2} (h:bM P p) (hq:∀ v∈P,bM Q v):bM Q p:=fun f hf=>h f (fun v hv=>hq v hv f hf)
theorem bM.mono {P Q:List Q2} {p:Q2} (h:bM P p) (hq:∀ v∈P,v∈Q):bM Q p:=h.trans fun v hv=>.gu (hq v hv)
theorem bM.nil (p:Q2):¬ bM [] p:=fun h=>by
 have:=h (0,0,1) (fun v hv=>nomatch hv)
 rw [fg] at this;grind
theorem bM.at {P:List Q2} {a b:Q2} {t:Rat} (ha:bM P a) (hb:bM P b) (h0:0≤t) (h1:t≤1):bM P (atR a b t):=fun f hf=>by
 rw [wV]; exact p9 h0 h1 (ha f hf) (hb f hf)
theorem N6 {m:Q3} {P:List Q2} {x:Q2} (h:x∈db m P):(x∈P∧0≤ai m x)∨∃ e∈aU P,x∈gO m e.1 e.2:=by
 unfold db at h;obtain ⟨e,he,hx⟩:=List.mem_flatMap.1 h;rcases List.mem_append.1 hx with hx | hx
 ·left
  unfold mK at hx
  split at hx
  ·rename_i hc;simp at hx;rw [hx];exact ⟨(gL he).1,mF.1 hc⟩
  ·cases hx
 ·exact .inr ⟨e,he,hx⟩
theorem T1 {α:Type} {l:List α} {x:α} (h:x∈l):∃ y,(x,y)∈aU l:=by
 obtain ⟨i,hi,rfl⟩:=List.getElem_of_mem h;have J:(i+1) % l.length < l.length:=Nat.mod_lt _ (by omega)
 have:=qe (List.getElem?_eq_getElem hi) (List.getElem?_eq_getElem J);exact ⟨_,List.mem_of_getElem? this⟩
theorem Nf {m:Q3} {P:List Q2} {x:Q2} (h:x∈P) (hm:0≤ai m x):x∈db m P:=by
 obtain ⟨y,hy⟩:=T1 h;unfold db;refine List.mem_flatMap.2 ⟨_,hy,List.mem_append_left _ ?_⟩;unfold mK;rw [if_pos (mF.2 hm)];exact List.mem_cons_self ..
theorem Mx {m:Q3} {P:List Q2} {x y:Q2} (he:(x,y)∈aU P) (h:(0≤ai m x∧ai m y < 0)∨(ai m x≤0∧0 < ai m y)):∃ t,0≤t∧t≤1∧atR x y t∈db m P∧ai m (atR x y t)=0:=by
 by_cases h0:ai m x=0
 ·refine ⟨0,by grind,by grind,?_,by rw [wV,h0]; grind⟩
  have:atR x y 0=x:=by unfold atR; exact Prod.ext (by grind) (by grind)
  rw [this];exact Nf (gL he).1 (by grind)
 ·have J:(0 < ai m x∧ai m y < 0)∨(ai m x < 0∧0 < ai m y):=by grind
  have h3:=BK J;have h4:=tQ (x:=atR x y (ja m x y)) (by rw [h3]; simp)
  refine ⟨_,h4.2.2.1,h4.2.2.2.1,?_,h4.2.2.2.2⟩;unfold db;exact List.mem_flatMap.2 ⟨_,he,List.mem_append_right _ (by rw [h3]; simp)⟩
theorem My {m:Q3}:∀ (l:List Q2) (a:Q2),0≤ai m a→(∃ w∈l,ai m w < 0)→∃ x y,(x,y)∈b9 (a::l)∧0≤ai m x∧ai m y < 0:=by
 intro l
 induction l with
 | nil=>rintro a _ ⟨w,hw,_⟩; cases hw
 | cons b l ih =>
  rintro a ha ⟨w,hw,hm⟩
  rw [kP];by_cases hb:ai m b < 0
  ·exact ⟨a,b,List.mem_cons_self ..,ha,hb⟩
  ·rcases List.mem_cons.1 hw with rfl | hw
   ·exact absurd hm hb
   ·obtain ⟨x,y,h1,J⟩:=ih b (by grind) ⟨w,hw,hm⟩
    exact ⟨x,y,List.mem_cons_of_mem _ h1,J⟩
def xY (m:Q3):Q3:=(-m.1,-m.2.1,-m.2.2)
theorem uk (m:Q3) (p:Q2):ai (xY m) p=-ai m p:=by rw [fg,fg]; unfold xY; grind
theorem T2 {m:Q3} (l:List Q2) (a:Q2) (h:ai m a≤0) (hw:∃ w∈l,0 < ai m w):∃ x y,(x,y)∈b9 (a::l)∧ai m x≤0∧0 < ai m y:=by
 obtain ⟨x,y,h1,J,h3⟩:=My (m:=xY m) l a (by rw [uk]; grind) (by obtain ⟨w,h1,J⟩:=hw; exact ⟨w,h1,by rw [uk]; grind⟩)
 rw [uk] at J h3;exact ⟨x,y,h1,by grind,by grind⟩
theorem T3 (f m:Q3) (v w z:Q2):∃ α β γ:Rat,(∀ z,(ai m v - ai m w)*ai f z=α*ai m z+β*ak v w z+γ):=by
 refine ⟨-(f.1*(w.1 - v.1)+f.2.1*(w.2 - v.2)),-(m.1*f.2.1 - m.2.1*f.1),(ai m v - ai m w)*ai f v - -(f.1*(w.1 - v.1)+f.2.1*(w.2 - v.2))*ai m v,fun z=>?_⟩
 simp only [fg,dj];grind
theorem T4 (f m:Q3):∀ P:List Q2,∃ k:Rat,0≤k∧(∀ v∈P,ai m v < 0→0≤ai f v - k*ai m v)∧(k=0∨∃ w∈P,ai m w < 0∧ai f w=k*ai m w):=by
 intro P
 induction P with
 | nil=>exact ⟨0,by grind,(fun v hv=>by cases hv),.inl rfl⟩
 | cons v P ih =>
  obtain ⟨k,hk,h1,J⟩:=ih;by_cases hv:ai m v < 0∧ai f v - k*ai m v < 0
  ·obtain ⟨mn,D1⟩:=hv;have e:ai f v / ai m v*ai m v=ai f v:=by rw [Rat.div_def]; grind
   obtain ⟨j,hj⟩:∃ j,j=ai f v / ai m v:=⟨_,rfl⟩;rw [← hj] at e;have an:k < j:=by
    by_cases h:k < j
    ·exact h
    ·have:=Rat.mul_nonneg (show 0≤k - j by grind) (show 0≤-ai m v by grind)
     grind
   refine ⟨j,by grind,fun u hu hm=>?_,.inr ⟨v,List.mem_cons_self ..,mn,e.symm⟩⟩
   rcases List.mem_cons.1 hu with rfl | hu
   ·rw [e]; grind
   ·have h3:=h1 u hu hm;have:=Rat.mul_nonneg (show 0≤j - k by grind) (show 0≤-ai m u by grind)
    grind
  ·refine ⟨k,hk,fun u hu hm=>?_,?_⟩
   ·rcases List.mem_cons.1 hu with rfl | hu
    ·have:¬ (ai f u - k*ai m u < 0):=fun h=>hv ⟨hm,h⟩
     grind
    ·exact h1 u hu hm
   ·rcases J with J | ⟨w,hw,J⟩
    ·exact .inl J
    ·exact .inr ⟨w,List.mem_cons_of_mem _ hw,J⟩
theorem bB.mid {v w x:Q2} {A B:List Q2} (h:bB (v::A++w::B)) (hx:x∈v::A++[w]):ak v w x≤0:=by
 have hl:List.Pairwise (fun b c=>0≤ak v b c) (A++w::B):=h.1
 rw [List.pairwise_append] at hl;simp only [List.cons_append,List.mem_cons,List.mem_append,List.not_mem_nil,or_false] at hx;rcases hx with rfl | hx | rfl
 ·rw [ke]; grind
 ·have:=hl.2.2 x hx w (List.mem_cons_self ..);rw [wU]; grind
 ·rw [kf]; grind
theorem bB.back {v w x:Q2} {A B:List Q2} (h:bB (v::A++w::B)) (hx:x∈w::B++[v]):0≤ak v w x:=by
 have hl:List.Pairwise (fun b c=>0≤ak v b c) (A++w::B):=h.1
 rw [List.pairwise_append,List.pairwise_cons] at hl;simp only [List.cons_append,List.mem_cons,List.mem_append,List.not_mem_nil,or_false] at hx;rcases hx with rfl | hx | rfl
 ·rw [kf]; grind
 ·exact hl.2.1.1 x hx
 ·rw [ke]; grind
theorem XF {m f:Q3} {P:List Q2} {v w:Q2} (hT:bB P) (hf:∀ x∈db m P,0≤ai f x) (hv:v∈P) (hw:w∈P) (tf:0 < ai m v) (JG:ai m w < 0):0≤ai f v*(-ai m w)+ai f w*ai m v:=by
 obtain ⟨P1,P2,rfl⟩:=List.append_of_mem hv;have Jo:w∈P2++P1:=by
  rcases List.mem_append.1 hw with h | h
  ·exact List.mem_append_right _ h
  ·rcases List.mem_cons.1 h with rfl | h
   ·grind
   ·exact List.mem_append_left _ h
 obtain ⟨A,B,mq⟩:=List.append_of_mem Jo;have m6:bB (v::A++w::B):=by
  have:=hT.tA;rw [List.cons_append,mq] at this;exact this
 have Pt:∀ e,e∈aU (v::A++w::B)→e∈aU (P1++v::P2):=fun e he=>by
  refine wH (A:=v::P2) ?_;rw [List.cons_append,mq]; exact he
 have OU:aU (v::A++w::B)=b9 (v::A++[w])++b9 (w::B++[v]):=by
  show b9 ((v::A++w::B)++[v])=_
  rw [List.append_assoc];exact tU (v::A) (B++[v]) w
 obtain ⟨x1,y1,AJ,s8,g9⟩:=My (m:=m) (A++[w]) v (by grind) ⟨w,by simp,JG⟩
 obtain ⟨x2,y2,bO,ox,gy⟩:=T2 (m:=m) (B++[v]) w (by grind) ⟨v,by simp,tf⟩
 have m1:=Fi AJ;have m2:=Fi bO;obtain ⟨t1,AF,Rg,rB,QI⟩:=Mx (Pt _ (by rw [OU]; exact List.mem_append_left _ AJ)) (.inl ⟨s8,g9⟩)
 obtain ⟨t2,h20,h21,Jw,eH⟩:=Mx (Pt _ (by rw [OU]; exact List.mem_append_right _ bO)) (.inr ⟨ox,gy⟩)
 have Jp:=hf _ rB;have hf2:=hf _ Jw;have hg1:ak v w (atR x1 y1 t1)≤0:=by
  rw [uj];have:=p9 AF Rg (show 0≤-ak v w x1 by have:=m6.mid m1.1; grind) (show 0≤-ak v w y1 by have:=m6.mid m1.2; grind)
  grind
 have mr:0≤ak v w (atR x2 y2 t2):=by
  rw [uj];exact p9 h20 h21 (m6.back m2.1) (m6.back m2.2)
 obtain ⟨α,β,γ,hF⟩:=T3 f m v w v;have ev:=hF v;have ew:=hF w;have e1:=hF (atR x1 y1 t1);have e2:=hF (atR x2 y2 t2);rw [QI] at e1;rw [eH] at e2;rw [ke] at ev;rw [kf] at ew;obtain ⟨D,hD⟩:∃ D,D=ai m v - ai m w:=⟨_,rfl⟩;have yf:0 < D:=by grind
 rw [← hD] at ev ew e1 e2;have yc:0≤γ:=by
  by_cases rF:0≤β
  ·have a:=Rat.mul_nonneg rF (show 0≤-ak v w (atR x1 y1 t1) by grind)
   have b:=Rat.mul_nonneg (show 0≤D by grind) Jp
   grind
  ·have a:=Rat.mul_nonneg (show 0≤-β by grind) mr
   have b:=Rat.mul_nonneg (show 0≤D by grind) hf2
   grind
 have:D*(ai f v*(-ai m w)+ai f w*ai m v)=D*γ:=by grind
 have:ai f v*(-ai m w)+ai f w*ai m v=γ:=by
  have h:=congrArg (· / D) this;simp only [Rat.div_def] at h;grind
 rw [this]; exact yc
theorem Wu {m:Q3} {P:List Q2} {p:Q2} (hT:bB P) (h:bM P p) (hm:0≤ai m p):bM (db m P) p:=fun f hf=>by
 obtain ⟨k,hk,h1,J⟩:=T4 f m P;have hg:∀ v∈P,0≤ai (f.1 - k*m.1,f.2.1 - k*m.2.1,f.2.2 - k*m.2.2) v:=fun v hv=>by
  have e:ai (f.1 - k*m.1,f.2.1 - k*m.2.1,f.2.2 - k*m.2.2) v=ai f v - k*ai m v:=by simp only [fg]; grind
  rw [e];by_cases hn:ai m v < 0
  ·exact h1 v hv hn
  ·have hfv:=hf v (Nf hv (by grind))
   rcases J with rfl | ⟨w,hw,JG,hfw⟩
   ·grind
   ·by_cases h0:ai m v=0
    ·rw [h0]; grind
    ·have:=XF hT hf hv hw (by grind) JG
     rw [hfw] at this;have e2:ai f v*-ai m w+k*ai m w*ai m v=(ai f v - k*ai m v)*(-ai m w):=by grind
     rw [e2] at this;by_cases h3:0≤ai f v - k*ai m v
     ·exact h3
     ·have:=Rat.mul_pos (show 0 < -(ai f v - k*ai m v) by grind) (show 0 < -ai m w by grind)
      grind
 have:=h _ hg;have e:ai (f.1 - k*m.1,f.2.1 - k*m.2.1,f.2.2 - k*m.2.2) p=ai f p - k*ai m p:=by simp only [fg]; grind
 rw [e] at this;have:=Rat.mul_nonneg hk hm;grind
theorem Ng {m:Q3} {P:List Q2} {x:Q2} (h:x∈db m P):bM P x∧0≤ai m x:=by
 rcases N6 h with ⟨h1,J⟩ | ⟨e,he,hx⟩
 ·exact ⟨.gu h1,J⟩
 ·have:=tQ hx;refine ⟨?_,by rw [this.2.2.2.2]; grind⟩
  rw [this.2.1];exact (bM.gu (gL he).1).at (.gu (gL he).2) this.2.2.1 this.2.2.2.1
theorem EM {m:Q3} {P:List Q2} {p:Q2} (hT:bB P):bM (db m P) p↔bM P p∧0≤ai m p :=
 ⟨fun h=>⟨h.trans fun v hv=>(Ng hv).1,h m fun v hv=>(Ng hv).2⟩,fun h=>Wu hT h.1 h.2⟩
open Go
def pV (a b:Q2):Q3:=(-(b.2 - a.2),b.1 - a.1,(b.1 - a.1)*a.2 - (b.2 - a.2)*a.1)
theorem pg (a b z:Q2):ai (pV a b) z=ak a b z:=by simp only [fg,dj,pV]; grind
def IC (f g:Q3):Q3:=(f.1+g.1,f.2.1+g.2.1,f.2.2+g.2.2)
theorem Nh (f g:Q3) (z:Q2):ai (IC f g) z=ai f z+ai g z:=by simp only [fg,IC]; grind
theorem GO {a b:Q2} (h:a≠b):lF (pV a b):=fun ⟨h1,J⟩=>h (Prod.ext (by unfold pV at J; grind) (by unfold pV at h1; grind))
theorem KI {α:Type} {l:List α} {e:α × α} (h:e∈b9 l):∃ A B,l=A++e.1::e.2::B:=by
 induction l with
 | nil=>cases h
 | cons a l ih =>
  cases l with
  | nil=>cases h
  | cons b l =>
   rw [kP] at h;rcases List.mem_cons.1 h with rfl | h
   ·exact ⟨[],l,rfl⟩
   ·obtain ⟨A,B,mq⟩:=ih h;exact ⟨a::A,B,by rw [mq]; rfl⟩
theorem Wv {α:Type} {P:List α} {a b:α} (h:(a,b)∈aU P):(P=[a]∧b=a)∨∃ X Y M,P=X++Y∧Y++X=a::b::M:=by
 cases P with
 | nil=>cases h
 | cons c l =>
  obtain ⟨A,B,mq⟩:=KI h;have mq:c::l++[c]=A++a::b::B:=mq;rcases List.eq_nil_or_concat B with rfl | ⟨B,d,rfl⟩
  ·have h1:c::l++[c]=(A++[a])++[b]:=by rw [mq]; simp
   have J:=List.append_inj' h1 rfl;simp at J;obtain ⟨J,h3⟩:=J;cases A with
   | nil =>
    simp at J
    left; rw [J.1,J.2]; exact ⟨rfl,h3.symm.trans J.1⟩
   | cons x A =>
    right
    refine ⟨x::A,[a],A,by rw [J],?_⟩
    have:c=x:=by injection J
    show a::x::A=_
    rw [← this,h3]
  ·have h1:c::l++[c]=(A++a::b::B)++[d]:=by rw [mq]; simp
   have J:=(List.append_inj' h1 rfl).1
   right
   exact ⟨A,a::b::B,B++A,J,rfl⟩
theorem iG {P:List Q2} {a b z:Q2} (hT:bB P) (h:(a,b)∈aU P) (hz:z∈P):0≤ak a b z:=by
 rcases Wv h with ⟨rfl,rfl⟩ | ⟨X,Y,M,rfl,J⟩
 ·rw [yT]; grind
 ·have m6:=hT.tA;rw [J] at m6;have oE:z∈a::b::M:=by
   rw [← J]; rcases List.mem_append.1 hz with h | h
   ·exact List.mem_append_right _ h
   ·exact List.mem_append_left _ h
  have:=m6.1;unfold pH at this;rw [List.pairwise_cons] at this;rcases List.mem_cons.1 oE with rfl | oE
  ·rw [ke]; grind
  ·rcases List.mem_cons.1 oE with rfl | oE
   ·rw [kf]; grind
   ·exact this.1 z oE
theorem wI {P:List Q2} {a b z:Q2} (hT:bB P) (h:(a,b)∈aU P) (hz:bM P z):0≤ak a b z:=by
 rw [← pg];exact hz _ fun v hv=>by rw [pg]; exact iG hT h hv
def gh (P:List Q2) (v:Q2):Prop:=bM P v∧∃ f,ai f v=0∧∀ z,bM P z→z≠v→0 < ai f z
def iK (P Q:List Q2):Prop:=∀ p,bM P p↔bM Q p
theorem iK.symm {P Q:List Q2} (h:iK P Q):iK Q P:=fun p=>(h p).symm
theorem iK.trans {P Q R:List Q2} (h:iK P Q) (g:iK Q R):iK P R:=fun p=>(h p).trans (g p)
theorem iK.rfl' {P:List Q2}:iK P P:=fun p=>Iff.rfl
theorem iK.gu {P Q:List Q2} (h:∀ v,v∈P↔v∈Q):iK P Q:=fun p=>⟨fun hp=>hp.mono fun v hv=>(h v).1 hv,fun hp=>hp.mono fun v hv=>(h v).2 hv⟩
theorem gh.same {P Q:List Q2} {v:Q2} (h:gh P v) (hs:iK P Q):gh Q v :=
 ⟨(hs v).1 h.1,h.2.imp fun f hf=>⟨hf.1,fun z hz aE=>hf.2 z ((hs z).2 hz) aE⟩⟩
theorem Mz (f:Q3):∀ P:List Q2,(∀ v∈P,0 < ai f v)→∃ e:Rat,0 < e∧∀ v∈P,e≤ai f v:=by
 intro P
 induction P with
 | nil=>exact fun _=>⟨1,by grind,fun v hv=>by cases hv⟩
 | cons a P ih =>
  intro h;obtain ⟨e,he,hP⟩:=ih fun v hv=>h v (List.mem_cons_of_mem _ hv)
  have ha:=h a (List.mem_cons_self ..);by_cases hc:e≤ai f a
  ·exact ⟨e,he,fun v hv=>by rcases List.mem_cons.1 hv with rfl | hv; exact hc; exact hP v hv⟩
  ·exact ⟨ai f a,ha,fun v hv=>by
    rcases List.mem_cons.1 hv with rfl | hv
    ·grind
    ·have:=hP v hv; grind⟩
theorem gh.mem {P:List Q2} {v:Q2} (h:gh P v):v∈P:=by
 refine Decidable.byContradiction fun hn=>?_
 obtain ⟨h1,f,J,h3⟩:=h;obtain ⟨e,he,h4⟩:=Mz f P fun z hz=>h3 z (.gu hz) fun e=>hn (e ▸ hz)
 have:=h1 (f.1,f.2.1,f.2.2+e) fun z hz=>by
  have:=h4 z hz;have e2:ai (f.1,f.2.1,f.2.2+e) z=ai f z - e:=by simp only [fg]; grind
  rw [e2]; grind
 have e2:ai (f.1,f.2.1,f.2.2+e) v=ai f v - e:=by simp only [fg]; grind
 rw [e2,J] at this;grind
theorem XG {p v q z:Q2} (h1:ak p v z=0) (J:ak v q z=0) (h:ak p v q≠0):z=v:=by
 rw [dj] at h1 J h;have a:((v.1 - p.1)*(q.2 - p.2) - (v.2 - p.2)*(q.1 - p.1))*(z.1 - v.1)=0:=by grind
 have b:((v.1 - p.1)*(q.2 - p.2) - (v.2 - p.2)*(q.1 - p.1))*(z.2 - v.2)=0:=by grind
 have a:=(Rat.mul_eq_zero.1 a).resolve_left h;have b:=(Rat.mul_eq_zero.1 b).resolve_left h;exact Prod.ext (by grind) (by grind)
theorem LF {P:List Q2} {p v q:Q2} (hT:bB P) (h1:(p,v)∈aU P) (J:(v,q)∈aU P) (h:ak p v q≠0):gh P v:=by
 refine ⟨.gu (gL J).1,IC (pV p v) (pV v q),?_,fun z hz aE=>?_⟩
 ·rw [Nh,pg,pg,kf,ke]; grind
 ·rw [Nh,pg,pg];have a:=wI hT h1 hz;have b:=wI hT J hz;by_cases h0:ak p v z+ak v q z=0
  ·exact absurd (XG (by grind) (by grind) h) aE
  ·grind
theorem gh.Bn {P:List Q2} {v a b:Q2} {t:Rat} (h:gh P v) (ha:bM P a) (hb:bM P b) (hav:a≠v) (hbv:b≠v) (h0:0 < t) (h1:t < 1):v≠atR a b t:=fun e=>by
 obtain ⟨_,f,J,h3⟩:=h;have x:=h3 a ha hav;have y:=h3 b hb hbv;rw [e,wV] at J;have:=Rat.mul_pos (show 0 < 1 - t by grind) x
 have:=Rat.mul_pos h0 y;grind
def Flat (P:List Q2):Prop:=∃ f,lF f∧∀ v∈P,ai f v=0
theorem Ww {P:List Q2} {a b:Q2} (h:¬ Flat P) (dI:a≠b):∃ z∈P,ak a b z≠0:=by
 refine Decidable.byContradiction fun hn=>h ⟨pV a b,GO dI,fun v hv=>?_⟩
 rw [pg];exact Decidable.byContradiction fun h=>hn ⟨v,hv,h⟩
theorem Flat.mono {P Q:List Q2} (h:Flat Q) (hs:∀ v∈P,v∈Q):Flat P:=h.imp fun f hf=>⟨hf.1,fun v hv=>hf.2 v (hs v hv)⟩
theorem LG {P:List Q2} {p v q:Q2} (hT:bB P) (hF:¬ Flat P) (h1:(p,v)∈aU P) (J:(v,q)∈aU P) (mu:p≠v) (cY:v≠q) (h:ak p v q=0):∃ t,0 < t∧t < 1∧v=atR p q t:=by
 obtain ⟨z,hz,nX⟩:=Ww hF mu;have a:=iG hT h1 hz;have b:=iG hT J hz;obtain ⟨s,Ro,pS⟩:∃ s:Rat,q.1 - v.1=s*(v.1 - p.1)∧q.2 - v.2=s*(v.2 - p.2):=by
  rw [dj] at h;by_cases hx:v.1 - p.1=0
  ·have hy:v.2 - p.2≠0:=fun hy=>mu (Prod.ext (by grind) (by grind))
   refine ⟨(q.2 - v.2) / (v.2 - p.2),?_,?_⟩
   ·rw [hx] at h ⊢;have:(v.2 - p.2)*(q.1 - p.1)=0:=by grind
    have:=(Rat.mul_eq_zero.1 this).resolve_left hy;grind
   ·rw [Rat.div_def]; grind
  ·refine ⟨(q.1 - v.1) / (v.1 - p.1),?_,?_⟩
   ·rw [Rat.div_def]; grind
   ·rw [Rat.div_def];have:(v.1 - p.1)*(q.2 - v.2)=(v.1 - p.1)*((q.1 - v.1)*(v.1 - p.1)⁻¹*(v.2 - p.2)):=by grind
    have h0:(v.1 - p.1)*((q.2 - v.2) - ((q.1 - v.1)*(v.1 - p.1)⁻¹*(v.2 - p.2)))=0:=by grind
    have:=(Rat.mul_eq_zero.1 h0).resolve_left hx;grind
 have e:ak v q z=s*ak p v z:=by
  rw [dj,dj,Ro,pS]; grind
 have hs:0 < s:=by
  by_cases h0:s=0
  ·subst h0;exact absurd (Prod.ext (by grind) (by grind)) cY
  ·by_cases h1:0 < s
   ·exact h1
   ·have:=Rat.mul_pos (show 0 < -s by grind) (show 0 < ak p v z by grind)
    grind
 have aE:1+s≠0:=by grind
 have hi:(1+s)⁻¹*(1+s)=1:=by grind
 have fY:0 < (1+s)⁻¹:=by
  by_cases h1:0 < (1+s)⁻¹
  ·exact h1
  ·have:=Rat.mul_nonneg (show 0≤-(1+s)⁻¹ by grind) (show 0≤1+s by grind)
   grind
 refine ⟨(1+s)⁻¹,fY,?_,?_⟩
 ·have:=Rat.mul_pos fY hs;grind
 ·unfold atR;refine Prod.ext ?_ ?_
  ·have:q.1 - p.1=(1+s)*(v.1 - p.1):=by grind
   show v.1=p.1+(q.1 - p.1)*(1+s)⁻¹
   rw [this]; grind
  ·have:q.2 - p.2=(1+s)*(v.2 - p.2):=by grind
   show v.2=p.2+(q.2 - p.2)*(1+s)⁻¹
   rw [this]; grind
theorem Wx {α:Type} [DecidableEq α]:∀ {l:List α},(∀ A h B C,l≠A++h::B++h::C)→l.Nodup:=by
 intro l
 induction l with
 | nil=>exact fun _=>.nil
 | cons a l ih =>
  intro h;rw [List.nodup_cons];refine ⟨fun hm=>?_,ih fun A x B C e=>h (a::A) x B C (by rw [e]; rfl)⟩
  obtain ⟨B,C,e⟩:=List.append_of_mem hm;exact h [] a B C (by rw [e]; rfl)
theorem Flat.tA {A B:List Q2} (h:Flat (A++B)):Flat (B++A):=h.mono fun v hv=>by
 rcases List.mem_append.1 hv with h | h
 ·exact List.mem_append_right _ h
 ·exact List.mem_append_left _ h
theorem LH {P:List Q2} (hT:bB P) (hF:¬ Flat P) (aE:∀ e∈aU P,e.1≠e.2):P.Nodup:=by
 refine Wx fun A h B C e=>?_
 subst e;have m6:bB (h::B++h::(C++A)):=by
  have:=bB.tA (A:=A) (B:=h::B++h::C) (by simpa using hT)
  simpa using this
 have D7:¬ Flat (h::B++h::(C++A)):=fun J=>hF (by
  have:=Flat.tA (A:=h::B++h::C) (B:=A) (by simpa using J)
  simpa using this)
 have zW:∀ e∈aU (h::B++h::(C++A)),e.1≠e.2:=fun e he=>aE e (by
  have:=wH (A:=h::B++h::C) (B:=A) (e:=e) (by simpa using he)
  simpa using this)
 generalize C++A=D at m6 D7 zW;cases B with
 | nil=>exact zW (h,h) (by rw [show h::([]:List Q2)++h::D=h::h::D from rfl,tV]; exact List.mem_cons_self ..) rfl
 | cons q B =>
  cases D with
  | nil =>
   refine zW (h,h) ?_ rfl;show (h,h)∈b9 ((h::q::B++[h])++[h])
   rw [List.append_assoc];show (h,h)∈b9 (h::q::B++h::[h])
   rw [tU];exact List.mem_append_right _ (List.mem_cons_self ..)
  | cons r D =>
   have e1:(h,q)∈aU (h::(q::B)++h::r::D):=by
    show (h,q)∈b9 (h::q::(B++h::r::D++[h]))
    exact List.mem_cons_self ..
   have e2:(h,r)∈aU (h::(q::B)++h::r::D):=by
    show (h,r)∈b9 ((h::(q::B)++h::r::D)++[h])
    rw [List.append_assoc];show (h,r)∈b9 (h::(q::B)++h::(r::D++[h]))
    rw [tU];exact List.mem_append_right _ (List.mem_cons_self ..)
   have hq:h≠q:=zW _ e1;have hr:h≠r:=zW _ e2;have hD:∀ z∈r::D,ak h q z=0:=fun z hz=>by
    have a:=iG m6 e1 (z:=z) (List.mem_append_right _ (List.mem_cons_of_mem _ hz));have hl:bB (q::B++h::r::D):=m6.2;have:=bB.mid (A:=B) (B:=r::D) (x:=z) (v:=q) (w:=h);have hb:=bB.back (A:=B) (B:=r::D) (x:=z) (v:=q) (w:=h) hl (by
     show z∈h::(r::D)++[q]
     exact List.mem_append_left _ (List.mem_cons_of_mem _ hz))
    have:ak q h z=-ak h q z:=by rw [dj,dj]; grind
    grind
   have hB:∀ z∈q::B,ak h r z=0:=fun z hz=>by
    have a:=iG m6 e2 (z:=z) (List.mem_append_left _ (List.mem_cons_of_mem _ hz));have hl:List.Pairwise (fun b c=>0≤ak h b c) (q::B++h::r::D):=m6.1
    rw [List.pairwise_append] at hl;have:=hl.2.2 z hz r (List.mem_cons_of_mem _ (List.mem_cons_self ..));rw [wU] at this;grind
   refine D7 ⟨pV h q,GO hq,fun v hv=>?_⟩
   rw [pg];have vJ:=hB q (List.mem_cons_self ..);rcases List.mem_append.1 hv with hv | hv
   ·rcases List.mem_cons.1 hv with rfl | hv
    ·exact ke _ _
    ·have D1:=hB v hv;rw [dj] at D1 vJ ⊢;have Ix:r.1 - h.1≠0∨r.2 - h.2≠0:=by
      by_cases x:r.1 - h.1=0
      ·right; exact fun y=>hr (Prod.ext (by grind) (by grind))
      ·exact .inl x
     rcases Ix with x | x
     ·have:(r.1 - h.1)*((q.1 - h.1)*(v.2 - h.2) - (q.2 - h.2)*(v.1 - h.1))=0:=by grind
      exact (Rat.mul_eq_zero.1 this).resolve_left x
     ·have:(r.2 - h.2)*((q.1 - h.1)*(v.2 - h.2) - (q.2 - h.2)*(v.1 - h.1))=0:=by grind
      exact (Rat.mul_eq_zero.1 this).resolve_left x
   ·rcases List.mem_cons.1 hv with rfl | hv
    ·exact ke _ _
    ·exact hD v hv
theorem Se {α:Type} {R:α→α→Prop} (has:∀ a b,R a b→¬ R b a):∀ {l m:List α},l.Pairwise R→m.Pairwise R→(∀ x,x∈l↔x∈m)→l=m:=by
 intro l
 induction l with
 | nil =>
  intro m _ _ h;cases m with
  | nil=>rfl
  | cons b m=>have:=(h b).2 (List.mem_cons_self ..); cases this
 | cons a l ih =>
  intro m hl hm h;cases m with
  | nil=>have:=(h a).1 (List.mem_cons_self ..); cases this
  | cons b m =>
   rw [List.pairwise_cons] at hl hm;have Rp:∀ x,¬ R x x:=fun x hx=>has x x hx hx
   have dI:a=b:=by
    rcases List.mem_cons.1 ((h a).1 (List.mem_cons_self ..)) with e | e
    ·exact e
    ·rcases List.mem_cons.1 ((h b).2 (List.mem_cons_self ..)) with e2 | e2
     ·exact e2.symm
     ·exact absurd (hl.1 b e2) (has _ _ (hm.1 a e))
   subst dI;rw [ih hl.2 hm.2 fun x=>⟨fun hx=>?_,fun hx=>?_⟩]
   ·rcases List.mem_cons.1 ((h x).1 (List.mem_cons_of_mem _ hx)) with e | e
    ·subst e; exact absurd (hl.1 _ hx) (Rp _)
    ·exact e
   ·rcases List.mem_cons.1 ((h x).2 (List.mem_cons_of_mem _ hx)) with e | e
    ·subst e; exact absurd (hm.1 _ hx) (Rp _)
    ·exact e
theorem A7 {P:List Q2} {a b c:Q2} (ha:gh P a) (hb:gh P b) (hc:gh P c) (dI:a≠b) (AK:a≠c) (pQ:b≠c):ak a b c≠0:=fun h=>by
 obtain ⟨s,Ro,pS⟩:∃ s:Rat,c.1 - a.1=s*(b.1 - a.1)∧c.2 - a.2=s*(b.2 - a.2):=by
  rw [dj] at h;by_cases hx:b.1 - a.1=0
  ·have hy:b.2 - a.2≠0:=fun hy=>dI (Prod.ext (by grind) (by grind))
   refine ⟨(c.2 - a.2) / (b.2 - a.2),?_,?_⟩
   ·rw [hx] at h ⊢;have:(b.2 - a.2)*(c.1 - a.1)=0:=by grind
    have:=(Rat.mul_eq_zero.1 this).resolve_left hy;grind
   ·rw [Rat.div_def]; grind
  ·refine ⟨(c.1 - a.1) / (b.1 - a.1),?_,?_⟩
   ·rw [Rat.div_def]; grind
   ·rw [Rat.div_def];have h0:(b.1 - a.1)*((c.2 - a.2) - ((c.1 - a.1)*(b.1 - a.1)⁻¹*(b.2 - a.2)))=0:=by grind
    have:=(Rat.mul_eq_zero.1 h0).resolve_left hx;grind
 have h0:s≠0:=fun e=>by subst e; exact AK (Prod.ext (by grind) (by grind))
 have h1:s≠1:=fun e=>by subst e; exact pQ (Prod.ext (by grind) (by grind))
 have inv:∀ x:Rat,0 < x→0 < x⁻¹∧x⁻¹*x=1:=fun x hx=>by
  have e:x⁻¹*x=1:=by grind
  refine ⟨?_,e⟩;by_cases h1:0 < x⁻¹
  ·exact h1
  ·have:=Rat.mul_nonneg (show 0≤-x⁻¹ by grind) (show 0≤x by grind)
   grind
 rcases Rn s with h | h | h
 ·-- a lies between c and b
  obtain ⟨i0,i1⟩:=inv (1 - s) (by grind)
  refine ha.Bn hc.1 hb.1 (Ne.symm AK) (Ne.symm dI) (t:=(-s)*(1 - s)⁻¹) (Rat.mul_pos (by grind) i0) ?_ ?_
  ·grind
  ·unfold atR; exact Prod.ext (by grind) (by grind)
 ·exact h0 h
 ·by_cases J:s < 1
  ·-- c lies between a and b
   refine hc.Bn ha.1 hb.1 AK pQ h J ?_;unfold atR; exact Prod.ext (by grind) (by grind)
  ·obtain ⟨i0,i1⟩:=inv s h;refine hb.Bn ha.1 hc.1 dI (Ne.symm pQ) (t:=s⁻¹) i0 ?_ ?_
   ·have:=Rat.mul_pos i0 (show 0 < s - 1 by grind); grind
   ·unfold atR; exact Prod.ext (by grind) (by grind)
theorem S5 {P:List Q2} {h:Q2} {A B:List Q2} (hA:bB (h::A)) (hB:bB (h::B)) (nA:(h::A).Nodup) (nB:(h::B).Nodup) (eA:∀ v,v∈h::A↔gh P v) (eB:∀ v,v∈h::B↔gh P v):A=B:=by
 have key:∀ {A:List Q2},bB (h::A)→(h::A).Nodup→(∀ v,v∈h::A↔gh P v)→A.Pairwise (fun a b=>0 < ak h a b):=by
  intro A hA nA eA;rw [List.nodup_cons] at nA;have h1:List.Pairwise (fun a b=>0≤ak h a b) A:=hA.1
  have J:List.Pairwise (fun a b=>a≠b) A:=nA.2
  have h3:=List.Pairwise.and_mem.1 (h1.and J);refine h3.imp fun {a b} ⟨ha,hb,h4,h5⟩=>?_
  have:=A7 ((eA h).1 (List.mem_cons_self ..)) ((eA a).1 (List.mem_cons_of_mem _ ha)) ((eA b).1 (List.mem_cons_of_mem _ hb)) (fun e=>nA.1 (e ▸ ha)) (fun e=>nA.1 (e ▸ hb)) h5
  grind
 rw [List.nodup_cons] at nA nB;refine Se (R:=fun a b=>0 < ak h a b) (fun a b x y=>by rw [wU] at y; grind) (key hA (List.nodup_cons.2 nA) eA) (key hB (List.nodup_cons.2 nB) eB) fun x=>?_
 constructor
 ·intro hx;have:=(eB x).2 ((eA x).1 (List.mem_cons_of_mem _ hx));rcases List.mem_cons.1 this with e | e
  ·subst e; exact absurd hx nA.1
  ·exact e
 ·intro hx;have:=(eA x).2 ((eB x).1 (List.mem_cons_of_mem _ hx));rcases List.mem_cons.1 this with e | e
  ·subst e; exact absurd hx nB.1
  ·exact e
open Go
def ar (l:List Q2) (k:Nat):Q2:=l.getD k (0,0)
theorem ij {l:List Q2} {k:Nat} (h:k < l.length):l[k]?=some (ar l k):=by
 unfold ar; rw [List.getD_eq_getElem?_getD,List.getElem?_eq_getElem h]; rfl
theorem ss {l:List Q2} {k:Nat} {p:Q2} (h:l[k]?=some p):ar l k=p:=by
 unfold ar; rw [List.getD_eq_getElem?_getD,h]; rfl
theorem eJ {l:List Q2} {k:Nat} (h:k < l.length):ar l k∈l:=List.mem_of_getElem? (ij h)
theorem sf {l:List Q2} {v:Q2} (h:v∈l):∃ k,k < l.length∧ar l k=v:=by
 obtain ⟨k,hk,rfl⟩:=List.getElem_of_mem h;exact ⟨k,hk,ss (List.getElem?_eq_getElem hk)⟩
def aX (n k:Nat):Nat:=(k+1) % n
def dA (n k:Nat):Nat:=(k+n - 1) % n
theorem cL {n k:Nat} (h:k < n):aX n k < n:=Nat.mod_lt _ (by omega)
theorem jt {n k:Nat} (h:k < n):dA n k < n:=Nat.mod_lt _ (by omega)
theorem Cp {n k:Nat} (h:k < n):aX n (dA n k)=k:=by
 unfold aX dA;rw [Nat.mod_add_mod,show k+n - 1+1=k+n by omega,Nat.add_mod_right,Nat.mod_eq_of_lt h]
theorem yU {n k:Nat} (h:k < n):dA n (aX n k)=k:=by
 unfold aX dA;rcases Nat.lt_or_eq_of_le (show k+1≤n from h) with h1 | h1
 ·rw [Nat.mod_eq_of_lt h1,show k+1+n - 1=k+n by omega,Nat.add_mod_right,Nat.mod_eq_of_lt h]
 ·rw [h1,Nat.mod_self,show 0+n - 1=k by omega,Nat.mod_eq_of_lt h]
theorem xw {n k:Nat} (h:k < n) (hn:1 < n):aX n k≠k:=fun e=>by
 unfold aX at e;rcases Nat.lt_or_eq_of_le (show k+1≤n from h) with h1 | h1
 ·rw [Nat.mod_eq_of_lt h1] at e; omega
 ·rw [h1,Nat.mod_self] at e; omega
theorem OV {n k:Nat} (h:k < n) (hn:1 < n):dA n k≠k:=fun e=>by
 have h1:=Cp h;rw [e] at h1;exact xw h hn h1
theorem kg {l:List Q2} {k:Nat} (h:k < l.length):(ar l k,ar l (aX l.length k))∈aU l:=List.mem_of_getElem? (qe (ij h) (ij (cL h)))
theorem o6 {l:List Q2} {k:Nat} (h:k < l.length):(ar l (dA l.length k),ar l k)∈aU l:=by
 have:=kg (l:=l) (jt h)
 rwa [Cp h] at this
theorem wW {l:List Q2} {e:Q2 × Q2} (h:e∈aU l):∃ k,k < l.length∧e=(ar l k,ar l (aX l.length k)):=by
 obtain ⟨i,hi,rfl⟩:=List.getElem_of_mem h;have aP:i < l.length:=by rwa [ng] at hi
 refine ⟨i,aP,?_⟩;have:=qe (ij aP) (ij (cL aP));rw [List.getElem?_eq_getElem hi] at this;exact Option.some.inj this
def nd (l:List Q2) (k:Nat):Prop:=1 < l.length∧(ar l k=ar l (aX l.length k)∨2 < l.length∧ak (ar l (dA l.length k)) (ar l k) (ar l (aX l.length k))=0)
instance (l:List Q2) (k:Nat):Decidable (nd l k):=inferInstanceAs (Decidable (_∧_))
def lL (l:List Q2):Option Nat:=(List.range l.length).find? fun k=>decide (nd l k)
def Hh:Nat→List Q2→List Q2
 | 0,l=>l
 | n+1,l=>match lL l with | none=>l | some k=>Hh n (l.eraseIdx k)
def fF (l:List Q2):List Q2:=Hh l.length l
theorem Sx {l:List Q2} (h:∀ k,k < l.length→¬ nd l k):lL l=none:=by
 unfold lL;rw [List.find?_eq_none];intro k hk
 simpa using h k (List.mem_range.1 hk)
theorem Sf {l:List Q2} (h:lL l=none):∀ k,k < l.length→¬ nd l k:=fun k hk=>by
 unfold lL at h;rw [List.find?_eq_none] at h
 simpa using h k (List.mem_range.2 hk)
theorem EF {l:List Q2} {k:Nat} (h:lL l=some k):k < l.length∧nd l k:=by
 unfold lL at h;rw [List.find?_range_eq_some] at h;exact ⟨List.mem_range.1 h.2.1,by simpa using h.1⟩
theorem EZ {l:List Q2} (h:lL l=none):fF l=l:=by
 unfold fF;cases l with
 | nil=>rfl
 | cons a l=>show (match lL (a::l) with | none=>_ | some k=>_)=_; rw [h]
theorem E2 {l:List Q2} {k:Nat} (h:lL l=some k):fF l=fF (l.eraseIdx k):=by
 have hk:=(EF h).1;unfold fF;rw [List.length_eraseIdx_of_lt hk];obtain ⟨n,hn⟩:∃ n,l.length=n+1:=⟨l.length - 1,by omega⟩
 rw [hn];show (match lL l with | none=>l | some k=>Hh n (l.eraseIdx k))=_
 rw [h]; rfl
theorem FL {C:List Q2→Prop} (hs:∀ l k,lL l=some k→C (l.eraseIdx k)→C l) (h0:∀ l,lL l=none→C l):∀ (n:Nat) (l:List Q2),l.length=n→C l:=by
 intro n
 induction n with
 | zero=>intro l hl; exact h0 l (Sx fun k hk=>by omega)
 | succ n ih =>
  intro l hl;cases e:lL l with
  | none=>exact h0 l e
  | some k=>exact hs l k e (ih _ (by rw [List.length_eraseIdx_of_lt (EF e).1]; omega))
theorem FM (l:List Q2):(fF l).Sublist l :=
 FL (C:=fun l=>(fF l).Sublist l) (fun l k h hc=>by rw [E2 h]; exact hc.trans (List.eraseIdx_sublist ..)) (fun l h=>by rw [EZ h]; exact List.Sublist.refl _) _ l rfl
theorem Ni (l:List Q2):∀ k,k < (fF l).length→¬ nd (fF l) k :=
 FL (C:=fun l=>∀ k,k < (fF l).length→¬ nd (fF l) k) (fun l k h hc=>by rw [E2 h]; exact hc) (fun l h=>by rw [EZ h]; exact Sf h) _ l rfl
theorem mem_erase {l:List Q2} {k j:Nat} (hj:j < l.length) (h:j≠k):ar l j∈l.eraseIdx k:=by
 rw [List.mem_eraseIdx_iff_getElem?];exact ⟨j,h,ij hj⟩
theorem T5 {l:List Q2} {k:Nat} {v:Q2} (h:v∈l):v∈l.eraseIdx k∨(k < l.length∧v=ar l k):=by
 obtain ⟨j,hj,rfl⟩:=sf h;by_cases e:j=k
 ·subst e; exact .inr ⟨hj,rfl⟩
 ·exact .inl (mem_erase hj e)
theorem Gh {f:Q3} {a b:Q2} {t:Rat} (ha:ai f a=0) (hb:ai f b=0):ai f (atR a b t)=0:=by rw [wV,ha,hb]; grind
theorem T6 {l:List Q2} {k:Nat} (hT:bB l) (hF:¬ Flat l) (hk:k < l.length) (h:nd l k):iK (l.eraseIdx k) l∧¬ Flat (l.eraseIdx k):=by
 obtain ⟨h1,J⟩:=h;have key:∀ (P:Q2→Prop),(∀ v∈l.eraseIdx k,P v)→(∀ a b t,P a→P b→0 < t→t < 1→P (atR a b t))→∀ v∈l,P v:=by
  intro P hP hm v hv;rcases T5 (k:=k) hv with h | ⟨_,rfl⟩
  ·exact hP v h
  ·by_cases e1:ar l k=ar l (aX l.length k)
   ·rw [e1]; exact hP _ (mem_erase (cL hk) (xw hk h1))
   ·by_cases e2:ar l (dA l.length k)=ar l k
    ·rw [← e2]; exact hP _ (mem_erase (jt hk) (OV hk h1))
    ·rcases J with J | ⟨J,h3⟩
     ·exact absurd J e1
     ·obtain ⟨t,t0,t1,ht⟩:=LG hT hF (o6 hk) (kg hk) e2 e1 h3;rw [ht];exact hm _ _ _ (hP _ (mem_erase (jt hk) (OV hk h1))) (hP _ (mem_erase (cL hk) (xw hk h1))) t0 t1
 refine ⟨fun p=>⟨fun hp=>hp.mono fun v hv=>(List.eraseIdx_sublist ..).subset hv,fun hp=>hp.trans ?_⟩,fun ⟨f,hf,hz⟩=>hF ⟨f,hf,?_⟩⟩
 ·exact key _ (fun v hv=>.gu hv) fun a b t ha hb t0 t1=>ha.at hb (by grind) (by grind)
 ·exact key _ hz fun a b t ha hb _ _=>Gh ha hb
theorem Fj {l:List Q2} (hT:bB l) (hF:¬ Flat l):iK (fF l) l∧¬ Flat (fF l) :=
 FL (C:=fun l=>bB l→¬ Flat l→iK (fF l) l∧¬ Flat (fF l)) (fun l k h hc hT hF=>by
  rw [E2 h];have J:=EF h;obtain ⟨a,b⟩:=T6 hT hF J.1 J.2;obtain ⟨c,d⟩:=hc (hT.sublist (List.eraseIdx_sublist ..)) b;exact ⟨c.trans a,d⟩) (fun l h hT hF=>by rw [EZ h]; exact ⟨.rfl',hF⟩) _ l rfl hT hF
theorem Cq {P:List Q2} (h:Flat P) {a b c:Q2} (ha:a∈P) (hb:b∈P) (hc:c∈P):ak a b c=0:=by
 obtain ⟨f,hf,hz⟩:=h;have x:=hz a ha;have y:=hz b hb;have z:=hz c hc;rw [fg] at x y z;rw [dj];by_cases h0:f.1=0
 ·have h1:f.2.1≠0:=fun e=>hf ⟨h0,e⟩
  have e:f.2.1*((b.1 - a.1)*(c.2 - a.2) - (b.2 - a.2)*(c.1 - a.1))=0:=by grind
  exact (Rat.mul_eq_zero.1 e).resolve_left h1
 ·have e:f.1*((b.1 - a.1)*(c.2 - a.2) - (b.2 - a.2)*(c.1 - a.1))=0:=by grind
  exact (Rat.mul_eq_zero.1 e).resolve_left h0
theorem EN (a b:Q2):∃ f:Q3,lF f∧ai f a=0∧ai f b=0:=by
 by_cases h:a=b
 ·subst h;exact ⟨(1,0,a.1),fun h=>absurd (show (1:Rat)=0 from h.1) (by decide),by rw [fg]; grind,by rw [fg]; grind⟩
 ·exact ⟨pV a b,GO h,by rw [pg,ke],by rw [pg,kf]⟩
theorem T7 {P:List Q2} (h:P.length≤2):Flat P:=by
 match P,h with
 | [],_=>exact ⟨(1,0,0),fun h=>absurd h.1 (by decide),fun v hv=>by cases hv⟩
 | [a],_ =>
  obtain ⟨f,hf,h1,_⟩:=EN a a;exact ⟨f,hf,fun v hv=>by simp at hv; rw [hv]; exact h1⟩
 | [a,b],_ =>
  obtain ⟨f,hf,h1,J⟩:=EN a b;exact ⟨f,hf,fun v hv=>by simp at hv; rcases hv with rfl | rfl <;> assumption⟩
 | _::_::_::_,h=>simp at h
theorem T8 {l:List Q2} (hF:Flat l):(fF l).length≤2:=by
 refine Decidable.byContradiction fun h=>?_
 have h0:=Ni l 0 (by omega)
 refine h0 ⟨by omega,.inr ⟨by omega,?_⟩⟩
 have D7:Flat (fF l):=hF.mono fun v hv=>(FM l).subset hv
 exact Cq D7 (eJ (jt (by omega))) (eJ (by omega)) (eJ (cL (by omega)))
structure Ring (P:List Q2):Prop where
 cT:bB P
 three:3≤P.length
 n9:∀ k,k < P.length→0 < ak (ar P (dA P.length k)) (ar P k) (ar P (aX P.length k))
theorem Ring.ne {P:List Q2} (h:Ring P):∀ e∈aU P,e.1≠e.2:=fun e he=>by
 obtain ⟨k,hk,rfl⟩:=wW he;intro e2;have:=h.n9 k hk;simp only at e2;rw [e2,kf] at this;grind
theorem Ring.ext {P:List Q2} (h:Ring P) {v:Q2}:v∈P↔gh P v:=by
 refine ⟨fun hv=>?_,gh.mem⟩
 obtain ⟨k,hk,rfl⟩:=sf hv;have:=h.n9 k hk;exact LF h.cT (o6 hk) (kg hk) (by grind)
theorem Ring.HP {P:List Q2} (h:Ring P):¬ Flat P:=fun hF=>by
 have hk:0 < P.length:=by have:=h.three; omega
 have:=h.n9 0 hk;rw [Cq hF (eJ (jt hk)) (eJ hk) (eJ (cL hk))] at this;grind
theorem Ring.nodup {P:List Q2} (h:Ring P):P.Nodup:=LH h.cT h.HP h.ne
theorem XH {P:List Q2} (hT:bB P) (hF:¬ Flat P) (hn:∀ k,k < P.length→¬ nd P k):Ring P:=by
 have h3:3≤P.length:=Decidable.byContradiction fun h=>hF (T7 (by omega))
 refine ⟨hT,h3,fun k hk=>?_⟩
 have a:=iG hT (o6 hk) (eJ (cL hk));have b:ak (ar P (dA P.length k)) (ar P k) (ar P (aX P.length k))≠0:=fun e=>hn k hk ⟨by omega,.inr ⟨by omega,e⟩⟩
 grind
theorem LI {l:List Q2} (hT:bB l) (hF:¬ Flat l):Ring (fF l):=XH (hT.sublist (FM l)) (Fj hT hF).2 (Ni l)
def nZ (l:List Q2):Nat→Nat
 | 0=>0
 | i+1=>if fH (ar l i) (ar l (nZ l i)) < 0 then i else nZ l i
def qF (l:List Q2):Nat:=nZ l l.length
def eV (l:List Q2):List Q2:=l.drop (qF l)++l.take (qF l)
def iB (a b:Q2):Prop:=a.1 < b.1∨a.1=b.1∧a.2≤b.2
theorem uC {a b:Q2}:iB a b↔¬ fH b a < 0:=by
 unfold iB fH;rcases Bw (b.1 - a.1) with ⟨h1,J⟩ | ⟨h1,J⟩ | ⟨h1,J⟩
 ·rw [Gg b.1 a.1,J];constructor
  ·rintro (h | ⟨h,_⟩) <;> grind
  ·intro h; exact absurd (by rw [if_pos (by decide)]; decide) h
 ·rw [Gg b.1 a.1,J,if_neg (by decide),B0]
  constructor
  ·rintro (h | ⟨h,h3⟩) <;> grind
  ·intro h; right; exact ⟨by grind,by grind⟩
 ·rw [Gg b.1 a.1,J];constructor
  ·intro _; rw [if_pos (by decide)]; decide
  ·intro _; left; grind
theorem Vf {a b c:Q2} (h:iB a b) (g:iB b c):iB a c:=by unfold iB at *; grind
theorem Nj {a b:Q2} (h:iB a b) (g:iB b a):a=b:=by
 unfold iB at *;exact Prod.ext (by grind) (by grind)
theorem Wy (a:Q2):iB a a:=by unfold iB; right; exact ⟨rfl,by grind⟩
theorem Vg {a b:Q2} (h:¬ iB a b):iB b a:=by unfold iB at *; grind
theorem KJ (l:List Q2):∀ i,i≤l.length→(0 < l.length→nZ l i < l.length)∧(∀ j,j < i→iB (ar l (nZ l i)) (ar l j)):=by
 intro i
 induction i with
 | zero=>intro _; exact ⟨fun h=>h,fun j hj=>absurd hj (Nat.not_lt_zero _)⟩
 | succ i ih =>
  intro hi;obtain ⟨h1,J⟩:=ih (by omega)
  unfold nZ
  split
  ·rename_i hc;have hle:iB (ar l i) (ar l (nZ l i)):=Vg fun h=>(uC.1 h) hc
   refine ⟨fun _=>by omega,fun j hj=>?_⟩
   rcases Nat.lt_or_eq_of_le (Nat.le_of_lt_succ hj) with h | h
   ·exact Vf hle (J j h)
   ·subst h; exact Wy _
  ·rename_i hc;refine ⟨h1,fun j hj=>?_⟩
   rcases Nat.lt_or_eq_of_le (Nat.le_of_lt_succ hj) with h | h
   ·exact J j h
   ·subst h; exact uC.2 hc
theorem um {l:List Q2} {v:Q2}:v∈eV l↔v∈l:=by
 unfold eV;rw [List.mem_append];constructor
 ·rintro (h | h)
  ·exact List.mem_of_mem_drop h
  ·exact List.mem_of_mem_take h
 ·intro h;rw [← List.take_append_drop (qF l) l,List.mem_append] at h;exact h.symm
theorem Bo (l:List Q2):(eV l).length=l.length:=by
 unfold eV;rw [List.length_append,List.length_drop,List.length_take]; omega
theorem FN {l:List Q2} (h:bB l):bB (eV l):=bB.tA (by rw [List.take_append_drop]; exact h)
theorem Fk {l:List Q2} (h:l.Nodup):(eV l).Nodup:=by
 have hp:(eV l).Perm l:=by
  unfold eV;refine List.perm_append_comm.trans ?_;rw [List.take_append_drop]
 exact hp.nodup_iff.2 h
theorem FO {l:List Q2} (h:l≠[]):∃ a A,eV l=a::A∧∀ v∈l,iB a v:=by
 have hl:0 < l.length:=List.length_pos_iff.2 h;have hs:=KJ l l.length (Nat.le_refl _);refine ⟨ar l (qF l),l.drop (qF l+1)++l.take (qF l),?_,fun v hv=>?_⟩
 ·unfold eV;have an:qF l < l.length:=hs.1 hl;rw [List.drop_eq_getElem_cons an];have:l[qF l]'an=ar l (qF l):=by
   have:=ij an;rw [List.getElem?_eq_getElem an] at this;exact Option.some.inj this
  rw [List.cons_append,this]
 ·obtain ⟨j,hj,rfl⟩:=sf hv;exact hs.2 j hj
theorem Sy {P A B:List Q2} (hA:bB A) (hB:bB B) (nA:A.Nodup) (nB:B.Nodup) (eA:∀ v,v∈A↔gh P v) (eB:∀ v,v∈B↔gh P v):eV A=eV B:=by
 by_cases yh:A=[]
 ·subst yh;have:B=[]:=by
   cases B with
   | nil=>rfl
   | cons b B=>have:=(eA b).2 ((eB b).1 (List.mem_cons_self ..)); cases this
  rw [this]
 ·have hB0:B≠[]:=fun e=>by
   subst e;cases A with
   | nil=>exact yh rfl
   | cons b B=>have:=(eB b).2 ((eA b).1 (List.mem_cons_self ..)); cases this
  obtain ⟨a,A',ha,la⟩:=FO yh;obtain ⟨b,B',hb,lb⟩:=FO hB0;have ha':a∈A:=um.1 (by rw [ha]; exact List.mem_cons_self ..)
  have bz:b∈B:=um.1 (by rw [hb]; exact List.mem_cons_self ..)
  have dI:a=b:=Nj (la b ((eA b).2 ((eB b).1 bz))) (lb a ((eB a).2 ((eA a).1 ha')));subst dI;rw [ha,hb]
  congr 1
  refine S5 (P:=P) (h:=a) (by rw [← ha]; exact FN hA) (by rw [← hb]; exact FN hB) (by rw [← ha]; exact Fk nA) (by rw [← hb]; exact Fk nB) (fun v=>?_) (fun v=>?_)
  ·rw [← ha,um]; exact eA v
  ·rw [← hb,um]; exact eB v
theorem gh.iff {P Q:List Q2} (h:iK P Q) (v:Q2):gh P v↔gh Q v:=⟨fun x=>x.same h,fun x=>x.same h.symm⟩
open Go
theorem o7 {a b:Q2}:fH a b=0↔a=b:=Vc.trans ⟨fun h=>Prod.ext h.1 h.2,fun h=>by rw [h]; exact ⟨rfl,rfl⟩⟩
def nF (e:Q2 × Q2):List Q2:=if fH e.1 e.2≠0 then [e.1] else []
def gB (l:List Q2):List Q2:=(aU l).flatMap nF
def oe (l:List Q2) (i:Nat):List Q2:=if ak (ar l (dA l.length i)) (ar l i) (ar l (aX l.length i))≠0 then [ar l i] else []
def jJ (l:List Q2):List Q2:=(List.range l.length).flatMap (oe l)
def fK (l:List Q2):List Q2:=if (jJ (gB l)).length < 3 then [] else eV (jJ (gB l))
theorem E3 {α β:Type} (g:α→β) (f:α→List β) (h:∀ a,(f a).Sublist [g a]):∀ l:List α,(l.flatMap f).Sublist (l.map g)
 | []=>.slnil
 | a::l=>by
  rw [List.flatMap_cons,List.map_cons];exact (h a).append (E3 g f h l)
theorem Vh {α:Type} (l:List α):(aU l).map Prod.fst=l:=by
 refine List.ext_getElem (by rw [List.length_map,ng]) fun i h1 J=>?_
 have h3:(i+1) % l.length < l.length:=Nat.mod_lt _ (by omega)
 have:=qe (List.getElem?_eq_getElem J) (List.getElem?_eq_getElem h3);rw [List.getElem_map];rw [List.length_map] at h1;rw [List.getElem?_eq_getElem h1] at this;rw [Option.some.inj this]
theorem yr (l:List Q2):(gB l).Sublist l:=by
 have:=E3 Prod.fst nF (fun e=>by
  unfold nF
  split
  ·exact List.Sublist.refl _
  ·exact List.nil_sublist _) (aU l)
 rw [Vh] at this;exact this
theorem XI (l:List Q2):(List.range l.length).map (ar l)=l:=by
 refine List.ext_getElem (by simp) fun i h1 J=>?_
 simp;exact ss (List.getElem?_eq_getElem J)
theorem Bp (l:List Q2):(jJ l).Sublist l:=by
 have:=E3 (ar l) (oe l) (fun e=>by
  unfold oe
  split
  ·exact List.Sublist.refl _
  ·exact List.nil_sublist _) (List.range l.length)
 rw [XI] at this;exact this
theorem XJ (z:Q2):∀ (L:List Q2) (a:Q2),(a::L).getLast?=some z→((b9 (a::L)).flatMap nF++[z]).head?=some a∧∀ e∈b9 ((b9 (a::L)).flatMap nF++[z]),e.1≠e.2:=by
 intro L
 induction L with
 | nil =>
  intro a h;simp at h;subst h;exact ⟨rfl,fun e he=>by cases he⟩
 | cons b L ih =>
  intro a h;obtain ⟨h1,J⟩:=ih b (by rw [List.getLast?_cons_cons] at h; exact h)
  rw [kP,List.flatMap_cons,List.append_assoc];obtain ⟨X,hX⟩:∃ X,X=(b9 (b::L)).flatMap nF++[z]:=⟨_,rfl⟩;rw [← hX] at h1 J ⊢;unfold nF;by_cases dI:a=b
  ·rw [if_neg (by simp only [ne_eq]; exact fun h=>h (o7.2 dI))]
   rw [dI]; exact ⟨h1,J⟩
  ·rw [if_pos (fun h=>dI (o7.1 h))]
   refine ⟨rfl,?_⟩;cases X with
   | nil=>simp at h1
   | cons c X =>
    simp at h1;subst h1;intro e he;rw [show [(a,c).1]++c::X=a::c::X from rfl,kP] at he
    rcases List.mem_cons.1 he with rfl | he
    ·exact dI
    ·exact J e he
theorem K4 (l:List Q2):∀ e∈aU (gB l),e.1≠e.2:=by
 cases l with
 | nil=>intro e he; cases he
 | cons h B =>
  obtain ⟨h1,J⟩:=XJ h (B++[h]) h (by rw [← List.cons_append,List.getLast?_append]; rfl)
  have hd:gB (h::B)=(b9 (h::(B++[h]))).flatMap nF:=rfl;rw [← hd] at h1 J;cases hD:gB (h::B) with
  | nil=>intro e he; cases he
  | cons d D =>
   rw [hD] at h1 J;simp at h1;subst h1;intro e he;exact J e he
theorem K5 {α:Type} {l m:List α} {e:α × α} (h:e∈b9 l):e∈b9 (l++m):=by
 obtain ⟨A,B,rfl⟩:=KI h;rw [List.append_assoc,List.cons_append,tU];exact List.mem_append_right _ (List.mem_cons_self ..)
theorem leave {v:Q2}:∀ (l:List Q2),(∃ w∈l,w≠v)→∃ y,(v,y)∈b9 (v::l)∧v≠y:=by
 intro l
 induction l with
 | nil=>rintro ⟨w,hw,_⟩; cases hw
 | cons b l ih =>
  rintro ⟨w,hw,aE⟩
  by_cases hb:b=v
  ·subst hb;rcases List.mem_cons.1 hw with rfl | hw
   ·exact absurd rfl aE
   ·obtain ⟨y,h1,J⟩:=ih ⟨w,hw,aE⟩;exact ⟨y,List.mem_cons_of_mem _ h1,J⟩
  ·exact ⟨b,List.mem_cons_self ..,Ne.symm hb⟩
theorem KK {l:List Q2} (hF:¬ Flat l) {v:Q2}:v∈gB l↔v∈l:=by
 refine ⟨fun h=>(yr l).subset h,fun h=>?_⟩
 obtain ⟨w,hw,aE⟩:∃ w∈l,w≠v:=by
  refine Decidable.byContradiction fun hn=>hF ?_
  obtain ⟨f,hf,h1,_⟩:=EN v v;exact ⟨f,hf,fun x hx=>by
   have:x=v:=Decidable.byContradiction fun h=>hn ⟨x,hx,h⟩
   rw [this]; exact h1⟩
 obtain ⟨A,B,rfl⟩:=List.append_of_mem h;obtain ⟨y,h1,J⟩:=leave (v:=v) (B++A) ⟨w,by
  rcases List.mem_append.1 hw with h | h
  ·exact List.mem_append_right _ h
  ·rcases List.mem_cons.1 h with h | h
   ·exact absurd h aE
   ·exact List.mem_append_left _ h,aE⟩
 have he:(v,y)∈aU (A++v::B):=wH (A:=v::B) (K5 (m:=[v]) h1);unfold gB;refine List.mem_flatMap.2 ⟨_,he,?_⟩;unfold nF;rw [if_pos (fun h=>J (o7.1 h))]
 exact List.mem_cons_self ..
theorem T9 {D:List Q2} (hT:bB D) (hF:¬ Flat D) (aE:∀ e∈aU D,e.1≠e.2) (v:Q2):v∈jJ D↔gh D v:=by
 constructor
 ·intro h;unfold jJ at h;obtain ⟨i,hi,hv⟩:=List.mem_flatMap.1 h;have hi:=List.mem_range.1 hi;unfold oe at hv
  split at hv
  ·rename_i hc;simp at hv;rw [hv];exact LF hT (o6 hi) (kg hi) hc
  ·cases hv
 ·intro h;obtain ⟨i,hi,rfl⟩:=sf h.mem;unfold jJ;refine List.mem_flatMap.2 ⟨i,List.mem_range.2 hi,?_⟩;unfold oe;by_cases hc:ak (ar D (dA D.length i)) (ar D i) (ar D (aX D.length i))=0
  ·have n1:=aE _ (o6 hi);have n2:=aE _ (kg hi);obtain ⟨t,t0,t1,ht⟩:=LG hT hF (o6 hi) (kg hi) n1 n2 hc;exact absurd ht (h.Bn (.gu (eJ (jt hi))) (.gu (eJ (cL hi))) n1 (Ne.symm n2) t0 t1)
  ·rw [if_pos hc]; exact List.mem_cons_self ..
theorem XL {P:List Q2} (hT:bB P) (hF:¬ Flat P):fK P=eV (fF P)∧3≤(fF P).length:=by
 have hr:=LI hT hF;have JH:bB (gB P):=hT.sublist (yr P);have D8:¬ Flat (gB P):=fun h=>hF (h.mono fun v hv=>(KK hF).2 hv)
 have hs:iK (gB P) P:=.gu fun v=>KK hF
 have mY:=LH JH D8 (K4 P);have eC:∀ v,v∈jJ (gB P)↔gh P v:=fun v=>(T9 JH D8 (K4 P) v).trans (gh.iff hs v)
 have eR:∀ v,v∈fF P↔gh P v:=fun v=>hr.ext.trans (gh.iff (Fj hT hF).1 v)
 have he:=Sy (JH.sublist (Bp _)) hr.cT (mY.sublist (Bp _)) hr.nodup eC eR;refine ⟨?_,hr.three⟩;unfold fK;have hl:=congrArg List.length he;rw [Bo,Bo] at hl;rw [if_neg (by have:=hr.three; omega),he]
theorem Vi {P:List Q2} (hF:Flat P):fK P=[]∧(fF P).length < 3:=by
 refine ⟨?_,by have:=T8 hF; omega⟩
 have D8:Flat (gB P):=hF.mono fun v hv=>(yr P).subset hv
 have:jJ (gB P)=[]:=by
  unfold jJ;rw [List.flatMap_eq_nil_iff];intro i hi;have hi:=List.mem_range.1 hi;unfold oe;rw [if_neg (by simp only [ne_eq]; exact fun h=>h (Cq D8 (eJ (jt hi)) (eJ hi) (eJ (cL hi))))]
 unfold fK;rw [this,if_pos (by decide)]
abbrev Q4:=Q2 × Q2
def aeL (b:Q4):List Q2:=[b.1,(b.2.1,b.1.2),b.2,(b.1.1,b.2.2)]
def okB (b:Q4):Prop:=b.1.1≤b.2.1∧b.1.2≤b.2.2
def Qm (b:Q4) (p:Q2):Prop:=b.1.1≤p.1∧p.1≤b.2.1∧b.1.2≤p.2∧p.2≤b.2.2
def HQ (b:Q4) (l:List Q3):List Q2:=l.foldl (fun P m=>db m P) (aeL b)
open Go
def lG (S:Q3→Prop) (e:Q2 × Q2):Prop:=∃ m,S m∧lF m∧ai m e.1=0∧ai m e.2=0
theorem aaG {l m:Q3} {x:Q2} (hx:ai l x=0) (hy:ai m x=0) (h:qX l m≠0):x=IB l m:=by
 unfold qX at h;have e:qX l m=n8 (rE l) (rE m):=rfl;rw [show n8 (rE l) (rE m)=l.1*m.2.1 - l.2.1*m.1 from rfl] at h e
 rw [fg] at hx hy;unfold IB;rw [e];refine Prod.ext ?_ ?_
 ·show x.1=_
  rw [Rat.div_def]; grind
 ·show x.2=_
  rw [Rat.div_def]; grind
theorem aaH {l m:Q3} {a b:Q2} (hl:lF l) (ha:ai l a=0) (hb:ai l b=0) (h:ai m a≠ai m b):qX l m≠0:=fun e=>by
 rw [show qX l m=l.1*m.2.1 - l.2.1*m.1 from rfl] at e
 rw [fg] at ha hb;rw [fg,fg] at h;by_cases h0:l.1=0
 ·have h1:l.2.1≠0:=fun e=>hl ⟨h0,e⟩
  have:l.2.1*(m.1*a.1+m.2.1*a.2 - m.2.2 - (m.1*b.1+m.2.1*b.2 - m.2.2))=0:=by grind
  have:=(Rat.mul_eq_zero.1 this).resolve_left h1;exact h (by grind)
 ·have:l.1*(m.1*a.1+m.2.1*a.2 - m.2.2 - (m.1*b.1+m.2.1*b.2 - m.2.2))=0:=by grind
  have:=(Rat.mul_eq_zero.1 this).resolve_left h0;exact h (by grind)
def nJ (m:Q3) (e:Q2 × Q2):List Q2:=mK m e.1++gO m e.1 e.2
theorem N7 (m:Q3) (l:List Q2):db m l=(aU l).flatMap (nJ m):=rfl
theorem Gi {m:Q3} {a:Q2} (h:0≤ai m a):mK m a=[a]:=by unfold mK; rw [if_pos (mF.2 h)]
theorem Gj {m:Q3} {a:Q2} (h:ai m a < 0):mK m a=[]:=by unfold mK; rw [if_neg (fun J=>by have:=mF.1 J; grind)]
theorem Gk {m:Q3} {a b:Q2} (h:¬ ((0 < ai m a∧ai m b < 0)∨(ai m a < 0∧0 < ai m b))):gO m a b=[]:=by unfold gO; rw [if_neg (fun J=>h (BJ.1 J))]
theorem yt {S:Q2 × Q2→Prop} {a:Q2} {X:List Q2} (h:∀ x,X.head?=some x→S (a,x)) (hX:∀ e∈b9 X,S e):∀ e∈b9 (a::X),S e:=by
 cases X with
 | nil=>intro e he; cases he
 | cons x X =>
  intro e he;rw [kP] at he;rcases List.mem_cons.1 he with rfl | he
  ·exact h x rfl
  ·exact hX e he
theorem Wz {S:Q3→Prop} {m:Q3} (hS:S m) (hm:lF m) (z:Q2):∀ (L:List Q2) (a:Q2),(a::L).getLast?=some z→(∀ e∈b9 (a::L),lG S e) →
  ∃ X,(b9 (a::L)).flatMap (nJ m)++mK m z=X∧(∀ e∈b9 X,lG S e)∧(0≤ai m a→X.head?=some a)∧(ai m a < 0→∀ x,X.head?=some x→ai m x=0)∧(ai m z < 0→∀ x,X.getLast?=some x→ai m x=0):=by
 intro L
 induction L with
 | nil =>
  intro a hz D9;simp at hz;subst hz;by_cases ha:0≤ai m a
  ·refine ⟨[a],by rw [Gi ha]; rfl,(fun e he=>by cases he),fun _=>rfl,fun h=>absurd ha (by grind),fun h=>absurd ha (by grind)⟩
  ·exact ⟨[],by rw [Gj (by grind)]; rfl,(fun e he=>by cases he),fun h=>absurd h ha,(fun h x hx=>by cases hx),(fun h x hx=>by cases hx)⟩
 | cons b L ih =>
  intro a hz D9;rw [kP] at D9;obtain ⟨X,hX,h1,J,h3,h4⟩:=ih b (by rw [List.getLast?_cons_cons] at hz; exact hz) fun e he=>D9 e (List.mem_cons_of_mem _ he)
  obtain ⟨k,hk,JI,ka,kb⟩:=D9 (a,b) (List.mem_cons_self ..);rw [kP,List.flatMap_cons,List.append_assoc,hX];show ∃ Y,(mK m a++gO m a b)++X=Y∧_
  have last:∀ Z:List Q2,X≠[]→∀ x,(Z++X).getLast?=some x→X.getLast?=some x:=fun Z aE x hx=>by
   rw [List.getLast?_append] at hx;cases e:X.getLast? with
   | none=>exact absurd (List.getLast?_eq_none_iff.1 e) aE
   | some y=>rw [e] at hx; exact hx
  by_cases ha:0≤ai m a
  ·rw [Gi ha];by_cases hb:0≤ai m b
   ·rw [Gk (by grind),List.append_nil]
    have hh:=J hb;refine ⟨a::X,rfl,yt (fun x hx=>?_) h1,fun _=>rfl,fun h=>absurd ha (by grind),fun h x hx=>h4 h x (last [a] (fun e=>by rw [e] at hh; cases hh) x hx)⟩
    rw [hh] at hx; cases hx;exact ⟨k,hk,JI,ka,kb⟩
   ·by_cases h0:ai m a=0
    ·rw [Gk (by grind),List.append_nil]
     refine ⟨a::X,rfl,yt (fun x hx=>⟨m,hS,hm,h0,h3 (by grind) x hx⟩) h1,fun _=>rfl,fun h=>absurd ha (by grind),fun h x hx=>?_⟩
     by_cases AL:X=[]
     ·subst AL; simp at hx; rw [← hx]; exact h0
     ·exact h4 h x (last [a] AL x hx)
    ·have hc:=BK (m:=m) (p:=a) (q:=b) (.inl ⟨by grind,by grind⟩)
     have hs:=tQ (x:=atR a b (ja m a b)) (by rw [hc]; simp)
     rw [hc];refine ⟨a::atR a b (ja m a b)::X,rfl,yt (fun x hx=>?_) (yt (fun x hx=>⟨m,hS,hm,hs.2.2.2.2,h3 (by grind) x hx⟩) h1),fun _=>rfl,fun h=>absurd ha (by grind),fun h x hx=>?_⟩
     ·simp at hx;rw [← hx];exact ⟨k,hk,JI,ka,Gh ka kb⟩
     ·by_cases AL:X=[]
      ·subst AL; simp at hx; rw [← hx]; exact hs.2.2.2.2
      ·exact h4 h x (last [a,atR a b (ja m a b)] AL x hx)
  ·rw [Gj (by grind),List.nil_append]
   by_cases hb:0 < ai m b
   ·have hc:=BK (m:=m) (p:=a) (q:=b) (.inr ⟨by grind,by grind⟩)
    have hs:=tQ (x:=atR a b (ja m a b)) (by rw [hc]; simp)
    have hh:=J (by grind)
    rw [hc];refine ⟨atR a b (ja m a b)::X,rfl,yt (fun x hx=>?_) h1,fun h=>absurd h ha,fun _ x hx=>?_,fun h x hx=>h4 h x (last [atR a b (ja m a b)] (fun e=>by rw [e] at hh; cases hh) x hx)⟩
    ·rw [hh] at hx; cases hx;exact ⟨k,hk,JI,Gh ka kb,kb⟩
    ·simp at hx; rw [← hx]; exact hs.2.2.2.2
   ·rw [Gk (by grind),List.nil_append]
    refine ⟨X,rfl,h1,fun h=>absurd h ha,fun _ x hx=>?_,h4⟩
    by_cases jk:ai m b=0
    ·have:=J (by grind)
     rw [this] at hx; cases hx; exact jk
    ·exact h3 (by grind) x hx
theorem aaI {S:Q3→Prop} {m:Q3} {P:List Q2} (hS:S m) (hm:lF m) (h:∀ e∈aU P,lG S e):∀ e∈aU (db m P),lG S e:=by
 cases P with
 | nil=>intro e he; cases he
 | cons p P =>
  obtain ⟨X,hX,h1,J,h3,h4⟩:=Wz hS hm p (P++[p]) p (by rw [← List.cons_append,List.getLast?_append]; rfl) h
  have hc:db m (p::P)=(b9 (p::(P++[p]))).flatMap (nJ m):=rfl;rw [← hc] at hX;by_cases hp:0≤ai m p
  ·rw [Gi hp] at hX;have hh:=J hp;intro e he;cases hC:db m (p::P) with
   | nil=>rw [hC] at he; cases he
   | cons c C =>
    rw [hC] at hX he;have:c=p:=by rw [← hX] at hh; simpa using hh
    rw [this] at hX he;rw [tV,hX] at he;exact h1 e he
  ·rw [Gj (by grind),List.append_nil] at hX
   intro e he;cases hC:db m (p::P) with
   | nil=>rw [hC] at he; cases he
   | cons c C =>
    rw [hC] at he hX;subst hX;rcases List.eq_nil_or_concat C with rfl | ⟨C,d,rfl⟩
    ·have oD:=h3 (by grind) c rfl
     rw [tV] at he;rcases List.mem_cons.1 he with rfl | he
     ·exact ⟨m,hS,hm,oD,oD⟩
     ·cases he
    ·have oD:=h3 (by grind) c rfl
     have fC:=h4 (by grind) d (by rw [List.concat_eq_append,← List.cons_append,List.getLast?_append]; rfl)
     rw [List.concat_eq_append] at he h1;rw [tV,show c::(C++[d])++[c]=(c::C)++d::[c] by simp,tU] at he
     rcases List.mem_append.1 he with he | he
     ·exact h1 e (by rw [← List.cons_append]; exact he)
     ·rcases List.mem_cons.1 he with rfl | he
      ·exact ⟨m,hS,hm,fC,oD⟩
      ·cases he
theorem qb0 {k:Nat} (h:1≤k):QB 0 k:=(zg (n:=0) (by decide)).mono h
theorem qb1 {k:Nat} (h:1≤k):QB 1 k:=(zg (n:=1) (by decide)).mono h
open Go
def bH (L:List Q2):List PV:=L.map cj
def bS (L:List Q2):Nat→List Value:=cB (bH L)
theorem LJ (L:List Q2):(bH L).length=L.length:=List.length_map ..
theorem aaJ {L:List Q2} {k:Nat} (h:k < L.length):(bH L)[k]?=some (cj (ar L k)):=by
 unfold bH;rw [List.getElem?_map,ij h]; rfl
theorem WA {L:List Q2} {k:Nat} (h:k < L.length):bS L k=(cj (ar L k)).cells:=by
 unfold bS cB;rw [List.getD_eq_getElem?_getD,aaJ h]; rfl
theorem il {L:List Q2} {m k:Nat} (h:k < L.length) (hs:∀ v∈L,Q2.sz m v):∃ u:PV,u=cj (ar L k)∧bS L k=u.cells∧u.p=ar L k∧u.sz m∧Q2.sz m u.p :=
 ⟨_,rfl,WA h,gF _,sj (hs _ (eJ h)) (Nat.le_refl _),by rw [gF]; exact hs _ (eJ h)⟩
theorem XM {a b:Q2} (h:cj a=cj b):a=b:=by rw [← gF a,← gF b,h]
theorem XN {u v:PV} {a b:Q2} (hu:u=cj a) (hv:v=cj b):u=v↔a=b:=by
 subst hu; subst hv;exact ⟨XM,fun h=>by rw [h]⟩
theorem lV {k n:Nat} (hk:k < n) (hn:n≤1099511627776):Int.tmod (IntKind.i64.wrap ((k:Int)+1)) (n:Int)=(aX n k:Int):=by
 rw [ax (by omega) (by omega)]
 show Int.tmod ((k+1:Nat):Int) (n:Int)=(((k+1) % n:Nat):Int)
 rfl
theorem Df {k n:Nat} (hk:k < n) (hn:n≤1099511627776):Int.tmod (IntKind.i64.wrap (IntKind.i64.wrap ((k:Int)+(n:Int)) - 1)) (n:Int)=(dA n k:Int):=by
 rw [ax (x:=(k:Int)+n) (by omega) (by omega),ax (by omega) (by omega)]
 have:(k:Int)+n - 1=((k+n - 1:Nat):Int):=by omega
 rw [this]
 rfl
theorem E4 {X Y:List Q2} {r s:Nat} (h:X[r]?=Y[s]?):bS X r=bS Y s:=by
 unfold bS cB bH;rw [List.getD_eq_getElem?_getD,List.getD_eq_getElem?_getD,List.getElem?_map,List.getElem?_map,h]
theorem WB {L:List Q2} {m a:Nat} {z:Nat→List Value} (ha:a=L.length - m) (hm:m≤L.length):∀ r,r < L.length →
  iH (fun j=>iH z 0 (fun j=>bS L (eZ (0+m) j)) (eZ 0 j)) (0+a) (fun j=>bS L (eZ 0 j)) r=bS (L.drop m++L.take m) r:=fun r hr=>by
 by_cases h:r < a
 ·rw [jn (by omega),gp (Nat.zero_le _)]
  refine E4 ?_;rw [List.getElem?_append_left (by rw [List.length_drop]; omega),List.getElem?_drop]
  simp [ay]
 ·rw [gp (by omega)]
  refine E4 ?_;rw [List.getElem?_append_right (by rw [List.length_drop]; omega),List.length_drop,List.getElem?_take_of_lt (by omega)]
  simp [ay,ha]
theorem Vj {G:Nat→List Value} {L:List Q2} {m a:Nat} {z:Nat→List Value} (hG:∀ r,r < L.length→G r=bS L r) (ha:a=L.length - m) (hm:m≤L.length):∀ r,r < L.length →
  iH (fun j=>iH z 0 (fun j=>G (eZ (0+m) j)) (eZ 0 j)) (0+a) (fun j=>G (eZ 0 j)) r=bS (L.drop m++L.take m) r:=fun r hr=>by
 rw [← WB (z:=z) ha hm r hr];by_cases h:r < a
 ·rw [jn (show r < 0+a by omega),jn (show r < 0+a by omega),gp (Nat.zero_le _),gp (Nat.zero_le _)]
  have e:eZ (0+m) (eZ 0 r - 0)=m+r:=by rw [ay,ay]; omega
  rw [e];exact hG _ (by omega)
 ·rw [gp (show 0+a≤r by omega),gp (show 0+a≤r by omega)]
  have e:eZ 0 (r - (0+a))=r - a:=by rw [ay]; omega
  rw [e];exact hG _ (by omega)
def XV.p (b:XV):Q4:=(b.1.p,b.2.p)
abbrev LL:=Option (List R3 × Nat)
def aaK (l:List R3):Nat→List Value:=fun r=>(l.getD r zI).cells
def LL.val:LL→Value
 | none=>.slice none 0 0
 | some i=>.slice (some ⟨0,0,none⟩) i.1.length i.2
def LL.ae:LL→List aj
 | none=>[]
 | some i=>[.flat false i.1.length 9 (aaK i.1)]
def LL.list:LL→List R3
 | none=>[]
 | some i=>i.1
def qs (l:List R3):List Q3:=l.map R3.q
instance (b:Q4):Decidable (okB b):=inferInstanceAs (Decidable (_∧_))
def aeM (l:List Q3):Bool:=l.any fun m=>decide (¬ lF m)
theorem rX {O:List Q2} {q:Nat} {F f:Nat→List Value} {p:PV} {x:Q2} (hq:q=O.length) (hF:∀ r,r < q→F r=bS O r) (hp:p=cj x) (hf:f 0=p.cells):∀ r,r < q+1→iH F q f r=bS (O++[x]) r:=fun r hr=>by
 by_cases h:r < q
 ·rw [jn h,hF r h];exact E4 (by rw [List.getElem?_append_left (by omega)])
 ·rw [gp (by omega),show r - q=0 by omega,hf,hp]
  have:r=O.length:=by omega
  subst this;unfold bS cB bH;rw [List.getD_eq_getElem?_getD,List.getElem?_map];simp
theorem wX {f:Nat→List Value} {p:PV} {x:Q2} (hp:p=cj x) (hf:f 0=p.cells):∀ r,r < 1→f r=bS [x] r:=fun r hr=>by
 have:r=0:=by omega
 subst this;rw [hf,hp]; rfl
theorem MA {α β:Type} {l:List α} {f:α→List β} {j:Nat} {e:α} (h:l[j]?=some e):(l.take (j+1)).flatMap f=(l.take j).flatMap f++f e:=by
 rw [List.take_add_one,h];simp
theorem WC (m:Q3) (e:Q2 × Q2):(nJ m e).length≤2:=by
 unfold nJ mK gO;rw [List.length_append]
 split <;> split <;> simp
theorem FP (m:Q3):∀ l:List (Q2 × Q2),(l.flatMap (nJ m)).length≤2*l.length
 | []=>by simp
 | e::l=>by
  have:=FP m l;have:=WC m e;rw [List.flatMap_cons,List.length_append,List.length_cons];omega
theorem WD (m:Q3) (l:List Q2):(db m l).length≤2*l.length:=by
 rw [N7];have:=FP m (aU l);rw [ng] at this;exact this
open Go
def oa {α:Type} (f:α→Bool) (l:List α) (i:Nat):Prop:=(l.take i).any f=false
theorem EO {α:Type} (f:α→Bool) (l:List α):oa f l 0:=rfl
theorem tR {α:Type} {f:α→Bool} {l:List α} {i:Nat} {x:α} (h:oa f l i) (hx:l[i]?=some x) (hf:f x=false):oa f l (i+1):=by
 unfold oa at *;rw [List.take_add_one,hx,List.any_append,h];simp [hf]
theorem Fl {α:Type} {f:α→Bool} {l:List α} (h:oa f l l.length):l.any f=false:=by
 unfold oa at h;rw [List.take_length] at h;exact h
open Go
theorem Ua {p q:Q2}:fH q p=0↔fH p q=0:=by rw [o7,o7]; exact eq_comm
open Go
structure afc (b:Q4) (l:List Q3):Prop where
 okb:okB b
 afm:aeM l=false
 few:l.length≤60
 cT:bB (HQ b l)
 flat:¬ Flat (HQ b l)
 ring:Ring (fF (HQ b l))
theorem Nk {P:List Q2} (h:Ring P):bB (eV P)∧(eV P).Nodup∧3≤(eV P).length:=⟨FN h.cT,Fk h.nodup,by rw [Bo]; exact h.three⟩
theorem xi {l:List Q2} (h:l.Nodup) {i j:Nat} (hi:i < l.length) (hj:j < l.length) (e:ar l i=ar l j):i=j:=by
 have h1:=ij hi;have J:=ij hj;rw [e] at h1;exact (List.getElem?_inj hi h).1 (h1.trans J.symm)
def Qn (L:List Q2) (p:Q2):Prop:=∀ k,k < L.length→0≤ak (ar L k) (ar L (aX L.length k)) p
theorem WE (f:Q3):∀ L:List Q2,L≠[]→∃ v∈L,∀ u∈L,ai f v≤ai f u:=by
 intro L
 induction L with
 | nil=>intro h; exact absurd rfl h
 | cons a L ih =>
  intro _;cases L with
  | nil=>exact ⟨a,List.mem_cons_self ..,fun u hu=>by rw [List.mem_singleton.1 hu]; exact Rat.le_refl⟩
  | cons c L =>
   obtain ⟨v,hv,h⟩:=ih (by simp)
   by_cases hle:ai f a≤ai f v
   ·refine ⟨a,List.mem_cons_self ..,fun u hu=>?_⟩
    rcases List.mem_cons.1 hu with rfl | hu
    ·exact Rat.le_refl
    ·exact Rat.le_trans hle (h u hu)
   ·refine ⟨v,List.mem_cons_of_mem _ hv,fun u hu=>?_⟩
    rcases List.mem_cons.1 hu with rfl | hu
    ·grind
    ·exact h u hu
theorem aeN (f:Q3) (u v w p:Q2):ak u v w*(ai f p - ai f v)=ak u v p*(ai f w - ai f v)+ak v w p*(ai f u - ai f v):=by
 simp only [dj,fg]; grind
theorem S6 {L:List Q2} {p:Q2} (h:Ring L) (hp:Qn L p):bM L p:=fun f hf=>by
 obtain ⟨v,hv,zQ⟩:=WE f L (fun e=>by have:=h.three; rw [e] at this; exact absurd this (by decide))
 obtain ⟨k,hk,rfl⟩:=sf hv;have hc:=h.n9 k hk;have h1:=hp (dA L.length k) (jt hk);rw [Cp hk] at h1;have J:=hp k hk;have e:=aeN f (ar L (dA L.length k)) (ar L k) (ar L (aX L.length k)) p;have h3:=zQ _ (eJ (cL hk));have h4:=zQ _ (eJ (jt hk));have h5:=Rat.mul_nonneg h1 (show 0≤ai f (ar L (aX L.length k)) - ai f (ar L k) by grind)
 have h6:=Rat.mul_nonneg J (show 0≤ai f (ar L (dA L.length k)) - ai f (ar L k) by grind)
 have h7:0≤ai f p - ai f (ar L k):=by
  rcases Rat.le_total (a:=0) (b:=ai f p - ai f (ar L k)) with h | h
  ·exact h
  ·have h8:=Rat.mul_nonneg (Rat.le_of_lt hc) (show 0≤-(ai f p - ai f (ar L k)) by grind)
   have h9:ak (ar L (dA L.length k)) (ar L k) (ar L (aX L.length k))*(ai f p - ai f (ar L k))=0:=by grind
   rcases Rat.mul_eq_zero.1 h9 with h | h <;> grind
 have:=hf _ hv;grind
theorem S7 {P:List Q2} (h:Ring P) {u v w:Q2} (h1:(u,v)∈aU P) (J:(v,w)∈aU P):0 < ak u v w:=by
 obtain ⟨i,hi,e1⟩:=wW h1;obtain ⟨j,hj,e2⟩:=wW J;have a1:u=ar P i:=congrArg Prod.fst e1;have a2:v=ar P (aX P.length i):=congrArg Prod.snd e1;have b1:v=ar P j:=congrArg Prod.fst e2;have b2:w=ar P (aX P.length j):=congrArg Prod.snd e2;have e:=xi h.nodup (cL hi) hj (a2.symm.trans b1);subst e;have:=h.n9 _ hj;rw [yU hi] at this;rw [a1,a2,b2]; exact this
theorem Vk {P:List Q2} (h:Ring P):Ring (eV P):=by
 obtain ⟨h1,_,h3⟩:=Nk h;have hm:∀ e,e∈aU (eV P)→e∈aU P:=fun e he=>by
  have:=wH he
  rwa [List.take_append_drop] at this
 exact ⟨h1,h3,fun k hk=>S7 h (hm _ (o6 hk)) (hm _ (kg hk))⟩
theorem S8 {P:List Q2} (h:Ring P) {k:Nat} (hk:k < P.length):0 < ak (ar P k) (ar P (aX P.length k)) (ar P (aX P.length (aX P.length k))):=by
 have:=h.n9 _ (cL hk)
 rwa [yU hk] at this
theorem S9 {P:List Q2} (h:Ring P) {k:Nat} (hk:k < (eV P).length) (h0:0 < k):0 < fH (ar (eV P) k) (ar (eV P) 0):=by
 obtain ⟨_,hn,h3⟩:=Nk h;obtain ⟨a,A,e,hle⟩:=FO (l:=P) (fun e=>by have:=h.three; rw [e] at this; exact absurd this (by decide))
 have ea:ar (eV P) 0=a:=by rw [e]; rfl
 have h1:=uC.1 (hle _ (um.1 (eJ hk)));rw [← ea] at h1;have J:fH (ar (eV P) k) (ar (eV P) 0)≠0:=fun e=>by
  have:=xi hn hk (by omega) (o7.1 e)
  omega
 omega
instance (L:List Q2) (p:Q2):Decidable (Qn L p):=inferInstanceAs (Decidable (∀ k,k < L.length→_))
open Go
theorem N8 {o:Bool} (p:PV):aG (.flat false 1 6 (fun _=>p.cells)) (.aO o 6 [p.cells]) :=
 ⟨(fun h=>by cases h),rfl,Nat.le_refl _,fun r hr=>by
  have:r=0:=by have:r < 1:=hr; omega
  subst this; rfl,fun r hr v hv=>dD (show mP p.cells=true from rfl) v hv⟩
def Rq (m:Q3) (p:Q2):Prop:=lF m∧0≤ai m p
instance (m:Q3) (p:Q2):Decidable (Rq m p):=inferInstanceAs (Decidable (_∧_))
def ac7 (b:Q4) (l:List Q3) (p:Q2):Prop:=Qm b p∧∀ m∈l,Rq m p
instance (b:Q4) (p:Q2):Decidable (Qm b p):=inferInstanceAs (Decidable (_∧_∧_∧_))
instance (b:Q4) (l:List Q3) (p:Q2):Decidable (ac7 b l p):=inferInstanceAs (Decidable (_∧_))
theorem aaL {k n:Nat} (hk:k < n) (hn:n≤1099511627776):Int.tmod (IntKind.i64.wrap ((k:Int)+2)) (n:Int)=(aX n (aX n k):Int):=by
 rw [ax (by omega) (by omega)]
 show Int.tmod ((k+2:Nat):Int) (n:Int)=(((k+1) % n+1) % n:Nat)
 rw [Nat.mod_add_mod]
 rfl
open Go
def aD (L:List PV):List Q2:=L.map PV.p
def iC (L:List PV) (k:Nat):PV:=L.getD k (dp,dp)
theorem yN {L:List PV} {k:Nat} (h:k < L.length):L[k]?=some (iC L k):=by
 unfold iC; rw [List.getD_eq_getElem?_getD,List.getElem?_eq_getElem h]; rfl
theorem np {L:List PV} {k:Nat} (h:k < L.length):iC L k∈L:=List.mem_of_getElem? (yN h)
theorem o5 {L:List PV} {k:Nat} (h:k < L.length):cB L k=(iC L k).cells:=by
 unfold cB;rw [List.getD_eq_getElem?_getD,yN h]; rfl
theorem ku {L:List PV} {k:Nat} (h:k < L.length):(iC L k).p=ar (aD L) k:=by
 refine (ss ?_).symm;unfold aD;rw [List.getElem?_map,yN h]; rfl
theorem E5 {α β:Type} {f:α→List β} {c:Nat} (h:∀ a,(f a).length≤c):∀ l:List α,(l.flatMap f).length≤c*l.length
 | []=>by simp
 | e::l=>by
  have:=E5 h l;have:=h e;rw [List.flatMap_cons,List.length_append,List.length_cons,Nat.mul_add];omega
theorem WG {l:List Q2} {i:Nat} {a b c:Q2} {z:Int} (ha:a=ar l (dA l.length i)) (hb:b=ar l i) (hc:c=ar l (aX l.length i)) (hz:z=aW (ak a b c) 0):oe l i=if z≠0 then [b] else []:=by
 unfold oe;rw [← ha,← hb,← hc,hz];by_cases h:ak a b c=0
 ·rw [if_neg (fun e=>e h),if_neg (fun e=>e (GN h))]
 ·rw [if_pos h,if_pos (fun e=>h (yF.1 e))]
theorem cA (L:List PV):(aD L).length=L.length:=List.length_map ..
theorem lM {L:List PV} {k:Nat} (h:∀ v∈L,v.sz k) (hk:1≤k):∀ v∈aD L,Q2.sz k v:=fun v hv=>by
 obtain ⟨p,hp,rfl⟩:=List.mem_map.1 hv;exact PV.dg (h p hp) hk
theorem XO (L:List Q2) (j:Nat):(((aU L).take j).flatMap nF).length≤L.length:=by
 refine Nat.le_trans (E5 (c:=1) (fun e=>by unfold nF; split <;> simp) _) ?_
 rw [List.length_take,ng]; omega
theorem XP (L:List Q2) (j:Nat):((List.range j).flatMap (oe L)).length≤j:=by
 refine Nat.le_trans (E5 (c:=1) (fun e=>by unfold oe; split <;> simp) _) ?_
 rw [List.length_range]; omega
end Go.Ae
