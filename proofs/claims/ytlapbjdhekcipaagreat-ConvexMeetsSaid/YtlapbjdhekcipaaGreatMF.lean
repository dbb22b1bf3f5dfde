import Derived.Test.YtlapbjdhekcipaaGreatProg
import Derived.Shelf.Abstract
import Derived.Test.YtlapbjdhekcipaaGreatME
set_option linter.unusedVariables false
set_option linter.unusedSimpArgs false
namespace Go.Proofs.YtlapbjdhekcipaaGreat
open Go Go.Ae
def tt:TT:=fun t=>match t with
 | 1=>some ⟨1,8,.other,[.nilFunc]⟩
 | 2=>some ⟨1,8,.int .i64,[.int .i64 0]⟩
 | 3=>some ⟨1,8,.int .i64,[.int .i64 0]⟩
 | 4=>some ⟨1,1,.bool,[.bool false]⟩
 | 5=>some ⟨1,1,.int .u8,[.int .u8 0]⟩
 | 6=>some ⟨1,1,.int .u8,[.int .u8 0]⟩
 | 7=>some ⟨4,24,.struct [(0,1,false),(1,1,false),(2,1,false),(3,1,false)],[.int .i64 0,.int .i64 0,.bool false,.int .u8 0]⟩
 | 8=>some ⟨4,24,.struct [(0,1,false),(1,1,false),(2,1,false),(3,1,false)],[.int .i64 0,.int .i64 0,.bool false,.int .u8 0]⟩
 | 9=>some ⟨1,16,.str,[.string ⟨#[]⟩]⟩
 | 10=>some ⟨1,16,.str,[.string ⟨#[]⟩]⟩
 | 11=>some ⟨1,16,.str,[.string ⟨#[]⟩]⟩
 | 12=>some ⟨1,8,.int .u64,[.int .u64 0]⟩
 | 13=>some ⟨2,24,.struct [(0,1,false),(1,1,false)],[.string ⟨#[]⟩,.int .u64 0]⟩
 | 14=>some ⟨2,24,.struct [(0,1,false),(1,1,false)],[.string ⟨#[]⟩,.int .u64 0]⟩
 | 18=>some ⟨1,8,.struct [(0,1,false)],[.pointer none]⟩
 | 19=>some ⟨1,8,.struct [(0,1,false)],[.pointer none]⟩
 | 21=>some ⟨1,4,.int .i32,[.int .i32 0]⟩
 | 22=>some ⟨1,24,.slice 26,[.slice none 0 0]⟩
 | 23=>some ⟨3,40,.struct [(0,1,false),(1,1,false),(2,1,false)],[.bool false,.string ⟨#[]⟩,.string ⟨#[]⟩]⟩
 | 24=>some ⟨3,40,.struct [(0,1,false),(1,1,false),(2,1,false)],[.bool false,.string ⟨#[]⟩,.string ⟨#[]⟩]⟩
 | 25=>some ⟨6,80,.struct [(0,3,true),(3,3,true)],[.bool false,.string ⟨#[]⟩,.string ⟨#[]⟩,.bool false,.string ⟨#[]⟩,.string ⟨#[]⟩]⟩
 | 26=>some ⟨6,80,.struct [(0,3,true),(3,3,true)],[.bool false,.string ⟨#[]⟩,.string ⟨#[]⟩,.bool false,.string ⟨#[]⟩,.string ⟨#[]⟩]⟩
 | 27=>some ⟨1,8,.other,[.nilFunc]⟩
 | 28=>some ⟨1,8,.other,[.nilFunc]⟩
 | 29=>some ⟨1,8,.int .i64,[.int .i64 0]⟩
 | 31=>some ⟨1,8,.other,[.nilFunc]⟩
 | 32=>some ⟨1,8,.other,[.nilFunc]⟩
 | 33=>some ⟨1,8,.other,[.nilFunc]⟩
 | 34=>some ⟨1,8,.other,[.nilFunc]⟩
 | 36=>some ⟨1,8,.other,[.nilFunc]⟩
 | 38=>some ⟨1,8,.other,[.nilFunc]⟩
 | 39=>some ⟨12,160,.struct [(0,6,true),(6,6,true)],[.bool false,.string ⟨#[]⟩,.string ⟨#[]⟩,.bool false,.string ⟨#[]⟩,.string ⟨#[]⟩,.bool false,.string ⟨#[]⟩,.string ⟨#[]⟩,.bool false,.string ⟨#[]⟩,.string ⟨#[]⟩]⟩
 | 40=>some ⟨12,160,.struct [(0,6,true),(6,6,true)],[.bool false,.string ⟨#[]⟩,.string ⟨#[]⟩,.bool false,.string ⟨#[]⟩,.string ⟨#[]⟩,.bool false,.string ⟨#[]⟩,.string ⟨#[]⟩,.bool false,.string ⟨#[]⟩,.string ⟨#[]⟩]⟩
 | 41=>some ⟨1,8,.other,[.nilFunc]⟩
 | 42=>some ⟨1,8,.other,[.nilFunc]⟩
 | 43=>some ⟨1,8,.other,[.nilFunc]⟩
 | 44=>some ⟨1,8,.other,[.nilFunc]⟩
 | 45=>some ⟨1,8,.other,[.nilFunc]⟩
 | 47=>some ⟨1,8,.other,[.nilFunc]⟩
 | 48=>some ⟨1,8,.other,[.nilFunc]⟩
 | 49=>some ⟨1,8,.other,[.nilFunc]⟩
 | 50=>some ⟨1,8,.other,[.nilFunc]⟩
 | 51=>some ⟨1,8,.other,[.nilFunc]⟩
 | 52=>some ⟨1,8,.other,[.nilFunc]⟩
 | 53=>some ⟨1,8,.other,[.nilFunc]⟩
 | 54=>some ⟨1,8,.other,[.nilFunc]⟩
 | 55=>some ⟨1,24,.slice 24,[.slice none 0 0]⟩
 | 56=>some ⟨1,8,.other,[.nilFunc]⟩
 | 57=>some ⟨1,8,.other,[.nilFunc]⟩
 | 59=>some ⟨1,8,.other,[.nilFunc]⟩
 | 61=>some ⟨1,8,.other,[.nilFunc]⟩
 | 62=>some ⟨1,8,.other,[.nilFunc]⟩
 | 63=>some ⟨1,8,.other,[.nilFunc]⟩
 | 64=>some ⟨1,8,.other,[.nilFunc]⟩
 | 65=>some ⟨1,8,.other,[.nilFunc]⟩
 | 67=>some ⟨1,8,.other,[.nilFunc]⟩
 | 68=>some ⟨1,24,.slice 22,[.slice none 0 0]⟩
 | 69=>some ⟨1,8,.other,[.nilFunc]⟩
 | 70=>some ⟨1,8,.other,[.nilFunc]⟩
 | 71=>some ⟨1,8,.other,[.nilFunc]⟩
 | 72=>some ⟨1,8,.other,[.nilFunc]⟩
 | 73=>some ⟨1,8,.other,[.nilFunc]⟩
 | 74=>some ⟨1,8,.other,[.nilFunc]⟩
 | 75=>some ⟨1,8,.other,[.nilFunc]⟩
 | 76=>some ⟨1,8,.other,[.nilFunc]⟩
 | 77=>some ⟨1,8,.other,[.nilFunc]⟩
 | 78=>some ⟨1,8,.other,[.nilFunc]⟩
 | 79=>some ⟨1,8,.other,[.nilFunc]⟩
 | 80=>some ⟨1,8,.other,[.nilFunc]⟩
 | 81=>some ⟨1,8,.other,[.nilFunc]⟩
 | 82=>some ⟨1,8,.other,[.nilFunc]⟩
 | 83=>some ⟨1,8,.other,[.nilFunc]⟩
 | 84=>some ⟨1,8,.other,[.nilFunc]⟩
 | 85=>some ⟨1,8,.other,[.nilFunc]⟩
 | 86=>some ⟨1,8,.other,[.nilFunc]⟩
 | 88=>some ⟨1,8,.other,[.nilFunc]⟩
 | 89=>some ⟨1,8,.other,[.nilFunc]⟩
 | 90=>some ⟨1,8,.other,[.nilFunc]⟩
 | 91=>some ⟨1,8,.other,[.nilFunc]⟩
 | 92=>some ⟨2,24,.struct [(0,1,false),(1,1,false)],[.bool false,.string ⟨#[]⟩]⟩
 | 93=>some ⟨2,24,.struct [(0,1,false),(1,1,false)],[.bool false,.string ⟨#[]⟩]⟩
 | 94=>some ⟨1,8,.other,[.nilFunc]⟩
 | 95=>some ⟨1,8,.other,[.nilFunc]⟩
 | 96=>some ⟨4,48,.struct [(0,2,true),(2,2,true)],[.bool false,.string ⟨#[]⟩,.bool false,.string ⟨#[]⟩]⟩
 | 97=>some ⟨4,48,.struct [(0,2,true),(2,2,true)],[.bool false,.string ⟨#[]⟩,.bool false,.string ⟨#[]⟩]⟩
 | 98=>some ⟨1,8,.other,[.nilFunc]⟩
 | 99=>some ⟨1,8,.other,[.nilFunc]⟩
 | 100=>some ⟨1,8,.other,[.nilFunc]⟩
 | 101=>some ⟨1,8,.other,[.nilFunc]⟩
 | 102=>some ⟨1,8,.other,[.nilFunc]⟩
 | 103=>some ⟨1,8,.other,[.nilFunc]⟩
 | 104=>some ⟨1,8,.other,[.nilFunc]⟩
 | 105=>some ⟨1,8,.other,[.nilFunc]⟩
 | 106=>some ⟨1,8,.other,[.nilFunc]⟩
 | 107=>some ⟨1,8,.other,[.nilFunc]⟩
 | 108=>some ⟨1,8,.other,[.nilFunc]⟩
 | 110=>some ⟨1,8,.other,[.nilFunc]⟩
 | 111=>some ⟨1,8,.other,[.nilFunc]⟩
 | 112=>some ⟨1,8,.other,[.nilFunc]⟩
 | 113=>some ⟨1,8,.other,[.nilFunc]⟩
 | 114=>some ⟨1,8,.other,[.nilFunc]⟩
 | 115=>some ⟨1,24,.slice 3,[.slice none 0 0]⟩
 | 116=>some ⟨1,8,.other,[.nilFunc]⟩
 | 117=>some ⟨1,8,.other,[.nilFunc]⟩
 | 118=>some ⟨1,8,.other,[.nilFunc]⟩
 | 119=>some ⟨1,8,.other,[.nilFunc]⟩
 | 120=>some ⟨9,120,.struct [(0,3,true),(3,3,true),(6,3,true)],[.bool false,.string ⟨#[]⟩,.string ⟨#[]⟩,.bool false,.string ⟨#[]⟩,.string ⟨#[]⟩,.bool false,.string ⟨#[]⟩,.string ⟨#[]⟩]⟩
 | 121=>some ⟨9,120,.struct [(0,3,true),(3,3,true),(6,3,true)],[.bool false,.string ⟨#[]⟩,.string ⟨#[]⟩,.bool false,.string ⟨#[]⟩,.string ⟨#[]⟩,.bool false,.string ⟨#[]⟩,.string ⟨#[]⟩]⟩
 | 123=>some ⟨1,8,.other,[.nilFunc]⟩
 | 124=>some ⟨1,8,.other,[.nilFunc]⟩
 | 125=>some ⟨1,8,.other,[.nilFunc]⟩
 | 126=>some ⟨1,8,.other,[.nilFunc]⟩
 | 127=>some ⟨1,8,.other,[.nilFunc]⟩
 | 128=>some ⟨1,8,.other,[.nilFunc]⟩
 | 129=>some ⟨1,8,.int .u64,[.int .u64 0]⟩
 | 130=>some ⟨1,8,.other,[.nilFunc]⟩
 | 131=>some ⟨1,4,.int .u32,[.int .u32 0]⟩
 | 132=>some ⟨1,8,.int .u64,[.int .u64 0]⟩
 | 133=>some ⟨1,24,.slice 131,[.slice none 0 0]⟩
 | 134=>some ⟨1,24,.slice 131,[.slice none 0 0]⟩
 | 135=>some ⟨1,8,.other,[.nilFunc]⟩
 | 137=>some ⟨1,8,.other,[.nilFunc]⟩
 | 138=>some ⟨1,8,.other,[.nilFunc]⟩
 | 139=>some ⟨1,8,.other,[.nilFunc]⟩
 | 140=>some ⟨1,8,.other,[.nilFunc]⟩
 | 142=>some ⟨1,8,.other,[.nilFunc]⟩
 | 143=>some ⟨1,8,.other,[.nilFunc]⟩
 | 144=>some ⟨1,8,.other,[.nilFunc]⟩
 | 146=>some ⟨1,8,.other,[.nilFunc]⟩
 | 147=>some ⟨1,8,.other,[.nilFunc]⟩
 | 148=>some ⟨1,8,.other,[.nilFunc]⟩
 | 149=>some ⟨1,8,.other,[.nilFunc]⟩
 | 150=>some ⟨1,8,.other,[.nilFunc]⟩
 | 152=>some ⟨1,8,.other,[.nilFunc]⟩
 | 153=>some ⟨1,8,.other,[.nilFunc]⟩
 | 154=>some ⟨1,8,.other,[.nilFunc]⟩
 | 156=>some ⟨1,8,.other,[.nilFunc]⟩
 | 157=>some ⟨1,8,.other,[.nilFunc]⟩
 | 158=>some ⟨1,8,.other,[.nilFunc]⟩
 | 159=>some ⟨8,8,.array 8 5,[.int .u8 0,.int .u8 0,.int .u8 0,.int .u8 0,.int .u8 0,.int .u8 0,.int .u8 0,.int .u8 0]⟩
 | 160=>some ⟨1,24,.slice 5,[.slice none 0 0]⟩
 | 162=>some ⟨1,8,.other,[.nilFunc]⟩
 | 163=>some ⟨1,8,.other,[.nilFunc]⟩
 | 164=>some ⟨1,8,.other,[.nilFunc]⟩
 | 165=>some ⟨1,8,.other,[.nilFunc]⟩
 | 167=>some ⟨1,8,.other,[.nilFunc]⟩
 | 168=>some ⟨1,8,.other,[.nilFunc]⟩
 | 169=>some ⟨1,8,.other,[.nilFunc]⟩
 | 170=>some ⟨1,8,.other,[.nilFunc]⟩
 | 172=>some ⟨1,8,.other,[.nilFunc]⟩
 | 173=>some ⟨8,128,.array 8 9,[.string ⟨#[]⟩,.string ⟨#[]⟩,.string ⟨#[]⟩,.string ⟨#[]⟩,.string ⟨#[]⟩,.string ⟨#[]⟩,.string ⟨#[]⟩,.string ⟨#[]⟩]⟩
 | 177=>some ⟨4,40,.struct [(0,1,false),(1,1,false),(2,1,false),(3,1,false)],[.pointer none,.pointer none,.pointer none,.string ⟨#[]⟩]⟩
 | 178=>some ⟨4,40,.struct [(0,1,false),(1,1,false),(2,1,false),(3,1,false)],[.pointer none,.pointer none,.pointer none,.string ⟨#[]⟩]⟩
 | 182=>some ⟨1,8,.other,[.nilFunc]⟩
 | 183=>some ⟨1,1,.int .u8,[.int .u8 0]⟩
 | 184=>some ⟨1,1,.int .u8,[.int .u8 0]⟩
 | 185=>some ⟨1,8,.other,[.nilFunc]⟩
 | 187=>some ⟨1,4,.int .i32,[.int .i32 0]⟩
 | 188=>some ⟨1,4,.int .i32,[.int .i32 0]⟩
 | 189=>some ⟨11,48,.struct [(0,1,false),(1,1,false),(2,1,false),(3,1,false),(4,1,false),(5,1,false),(6,1,false),(7,1,false),(8,1,false),(9,1,false),(10,1,false)],[.int .u64 0,.int .u64 0,.int .u32 0,.int .u8 0,.int .u8 0,.int .u8 0,.int .u8 0,.nilFunc,.pointer none,.int .i32 0,.int .i32 0]⟩
 | 190=>some ⟨11,48,.struct [(0,1,false),(1,1,false),(2,1,false),(3,1,false),(4,1,false),(5,1,false),(6,1,false),(7,1,false),(8,1,false),(9,1,false),(10,1,false)],[.int .u64 0,.int .u64 0,.int .u32 0,.int .u8 0,.int .u8 0,.int .u8 0,.int .u8 0,.nilFunc,.pointer none,.int .i32 0,.int .i32 0]⟩
 | 191=>some ⟨1,16,.struct [(0,1,false)],[.string ⟨#[]⟩]⟩
 | 192=>some ⟨1,16,.struct [(0,1,false)],[.string ⟨#[]⟩]⟩
 | _=>none
theorem aco:aD Tryz.prog 1 ⟨1,8,.other,[.nilFunc]⟩:=aM (by kernel_rfl) (by kernel_rfl) (by kernel_rfl)
theorem acp:aD Tryz.prog 2 ⟨1,8,.int .i64,[.int .i64 0]⟩:=aM (by kernel_rfl) (by kernel_rfl) (by kernel_rfl)
theorem acq:aD Tryz.prog 3 ⟨1,8,.int .i64,[.int .i64 0]⟩:=aM (by kernel_rfl) (by kernel_rfl) (by kernel_rfl)
theorem acr:aD Tryz.prog 4 ⟨1,1,.bool,[.bool false]⟩:=aM (by kernel_rfl) (by kernel_rfl) (by kernel_rfl)
theorem acs:aD Tryz.prog 5 ⟨1,1,.int .u8,[.int .u8 0]⟩:=aM (by kernel_rfl) (by kernel_rfl) (by kernel_rfl)
theorem acu:aD Tryz.prog 6 ⟨1,1,.int .u8,[.int .u8 0]⟩:=aM (by kernel_rfl) (by kernel_rfl) (by kernel_rfl)
theorem acv:aD Tryz.prog 7 ⟨4,24,.struct [(0,1,false),(1,1,false),(2,1,false),(3,1,false)],[.int .i64 0,.int .i64 0,.bool false,.int .u8 0]⟩:=aM (by kernel_rfl) (by kernel_rfl) (by kernel_rfl)
theorem acw:aD Tryz.prog 8 ⟨4,24,.struct [(0,1,false),(1,1,false),(2,1,false),(3,1,false)],[.int .i64 0,.int .i64 0,.bool false,.int .u8 0]⟩:=aM (by kernel_rfl) (by kernel_rfl) (by kernel_rfl)
theorem acx:aD Tryz.prog 9 ⟨1,16,.str,[.string ⟨#[]⟩]⟩:=aM (by kernel_rfl) (by kernel_rfl) (by kernel_rfl)
theorem aaa:aD Tryz.prog 10 ⟨1,16,.str,[.string ⟨#[]⟩]⟩:=aM (by kernel_rfl) (by kernel_rfl) (by kernel_rfl)
theorem aab:aD Tryz.prog 11 ⟨1,16,.str,[.string ⟨#[]⟩]⟩:=aM (by kernel_rfl) (by kernel_rfl) (by kernel_rfl)
theorem aac:aD Tryz.prog 12 ⟨1,8,.int .u64,[.int .u64 0]⟩:=aM (by kernel_rfl) (by kernel_rfl) (by kernel_rfl)
theorem aad:aD Tryz.prog 13 ⟨2,24,.struct [(0,1,false),(1,1,false)],[.string ⟨#[]⟩,.int .u64 0]⟩:=aM (by kernel_rfl) (by kernel_rfl) (by kernel_rfl)
theorem aae:aD Tryz.prog 14 ⟨2,24,.struct [(0,1,false),(1,1,false)],[.string ⟨#[]⟩,.int .u64 0]⟩:=aM (by kernel_rfl) (by kernel_rfl) (by kernel_rfl)
theorem aaf:aD Tryz.prog 18 ⟨1,8,.struct [(0,1,false)],[.pointer none]⟩:=aM (by kernel_rfl) (by kernel_rfl) (by kernel_rfl)
theorem aag:aD Tryz.prog 19 ⟨1,8,.struct [(0,1,false)],[.pointer none]⟩:=aM (by kernel_rfl) (by kernel_rfl) (by kernel_rfl)
theorem aah:aD Tryz.prog 21 ⟨1,4,.int .i32,[.int .i32 0]⟩:=aM (by kernel_rfl) (by kernel_rfl) (by kernel_rfl)
theorem aai:aD Tryz.prog 22 ⟨1,24,.slice 26,[.slice none 0 0]⟩:=aM (by kernel_rfl) (by kernel_rfl) (by kernel_rfl)
theorem aaj:aD Tryz.prog 23 ⟨3,40,.struct [(0,1,false),(1,1,false),(2,1,false)],[.bool false,.string ⟨#[]⟩,.string ⟨#[]⟩]⟩:=aM (by kernel_rfl) (by kernel_rfl) (by kernel_rfl)
theorem aak:aD Tryz.prog 24 ⟨3,40,.struct [(0,1,false),(1,1,false),(2,1,false)],[.bool false,.string ⟨#[]⟩,.string ⟨#[]⟩]⟩:=aM (by kernel_rfl) (by kernel_rfl) (by kernel_rfl)
theorem aal:aD Tryz.prog 25 ⟨6,80,.struct [(0,3,true),(3,3,true)],[.bool false,.string ⟨#[]⟩,.string ⟨#[]⟩,.bool false,.string ⟨#[]⟩,.string ⟨#[]⟩]⟩:=aM (by kernel_rfl) (by kernel_rfl) (by kernel_rfl)
theorem aam:aD Tryz.prog 26 ⟨6,80,.struct [(0,3,true),(3,3,true)],[.bool false,.string ⟨#[]⟩,.string ⟨#[]⟩,.bool false,.string ⟨#[]⟩,.string ⟨#[]⟩]⟩:=aM (by kernel_rfl) (by kernel_rfl) (by kernel_rfl)
theorem aan:aD Tryz.prog 27 ⟨1,8,.other,[.nilFunc]⟩:=aM (by kernel_rfl) (by kernel_rfl) (by kernel_rfl)
theorem aao:aD Tryz.prog 28 ⟨1,8,.other,[.nilFunc]⟩:=aM (by kernel_rfl) (by kernel_rfl) (by kernel_rfl)
theorem aap:aD Tryz.prog 29 ⟨1,8,.int .i64,[.int .i64 0]⟩:=aM (by kernel_rfl) (by kernel_rfl) (by kernel_rfl)
theorem aaq:aD Tryz.prog 31 ⟨1,8,.other,[.nilFunc]⟩:=aM (by kernel_rfl) (by kernel_rfl) (by kernel_rfl)
theorem aar:aD Tryz.prog 32 ⟨1,8,.other,[.nilFunc]⟩:=aM (by kernel_rfl) (by kernel_rfl) (by kernel_rfl)
theorem aas:aD Tryz.prog 33 ⟨1,8,.other,[.nilFunc]⟩:=aM (by kernel_rfl) (by kernel_rfl) (by kernel_rfl)
theorem aat:aD Tryz.prog 34 ⟨1,8,.other,[.nilFunc]⟩:=aM (by kernel_rfl) (by kernel_rfl) (by kernel_rfl)
theorem aau:aD Tryz.prog 36 ⟨1,8,.other,[.nilFunc]⟩:=aM (by kernel_rfl) (by kernel_rfl) (by kernel_rfl)
theorem aav:aD Tryz.prog 38 ⟨1,8,.other,[.nilFunc]⟩:=aM (by kernel_rfl) (by kernel_rfl) (by kernel_rfl)
theorem aaw:aD Tryz.prog 39 ⟨12,160,.struct [(0,6,true),(6,6,true)],[.bool false,.string ⟨#[]⟩,.string ⟨#[]⟩,.bool false,.string ⟨#[]⟩,.string ⟨#[]⟩,.bool false,.string ⟨#[]⟩,.string ⟨#[]⟩,.bool false,.string ⟨#[]⟩,.string ⟨#[]⟩]⟩:=aM (by kernel_rfl) (by kernel_rfl) (by kernel_rfl)
theorem aax:aD Tryz.prog 40 ⟨12,160,.struct [(0,6,true),(6,6,true)],[.bool false,.string ⟨#[]⟩,.string ⟨#[]⟩,.bool false,.string ⟨#[]⟩,.string ⟨#[]⟩,.bool false,.string ⟨#[]⟩,.string ⟨#[]⟩,.bool false,.string ⟨#[]⟩,.string ⟨#[]⟩]⟩:=aM (by kernel_rfl) (by kernel_rfl) (by kernel_rfl)
theorem aay:aD Tryz.prog 41 ⟨1,8,.other,[.nilFunc]⟩:=aM (by kernel_rfl) (by kernel_rfl) (by kernel_rfl)
theorem aaz:aD Tryz.prog 42 ⟨1,8,.other,[.nilFunc]⟩:=aM (by kernel_rfl) (by kernel_rfl) (by kernel_rfl)
theorem aaA:aD Tryz.prog 43 ⟨1,8,.other,[.nilFunc]⟩:=aM (by kernel_rfl) (by kernel_rfl) (by kernel_rfl)
theorem aaB:aD Tryz.prog 44 ⟨1,8,.other,[.nilFunc]⟩:=aM (by kernel_rfl) (by kernel_rfl) (by kernel_rfl)
theorem aaC:aD Tryz.prog 45 ⟨1,8,.other,[.nilFunc]⟩:=aM (by kernel_rfl) (by kernel_rfl) (by kernel_rfl)
theorem aaD:aD Tryz.prog 47 ⟨1,8,.other,[.nilFunc]⟩:=aM (by kernel_rfl) (by kernel_rfl) (by kernel_rfl)
theorem aaE:aD Tryz.prog 48 ⟨1,8,.other,[.nilFunc]⟩:=aM (by kernel_rfl) (by kernel_rfl) (by kernel_rfl)
theorem aaF:aD Tryz.prog 49 ⟨1,8,.other,[.nilFunc]⟩:=aM (by kernel_rfl) (by kernel_rfl) (by kernel_rfl)
theorem aaG:aD Tryz.prog 50 ⟨1,8,.other,[.nilFunc]⟩:=aM (by kernel_rfl) (by kernel_rfl) (by kernel_rfl)
theorem aaH:aD Tryz.prog 51 ⟨1,8,.other,[.nilFunc]⟩:=aM (by kernel_rfl) (by kernel_rfl) (by kernel_rfl)
theorem aaI:aD Tryz.prog 52 ⟨1,8,.other,[.nilFunc]⟩:=aM (by kernel_rfl) (by kernel_rfl) (by kernel_rfl)
theorem aaJ:aD Tryz.prog 53 ⟨1,8,.other,[.nilFunc]⟩:=aM (by kernel_rfl) (by kernel_rfl) (by kernel_rfl)
theorem aaK:aD Tryz.prog 54 ⟨1,8,.other,[.nilFunc]⟩:=aM (by kernel_rfl) (by kernel_rfl) (by kernel_rfl)
theorem aaL:aD Tryz.prog 55 ⟨1,24,.slice 24,[.slice none 0 0]⟩:=aM (by kernel_rfl) (by kernel_rfl) (by kernel_rfl)
theorem aaM:aD Tryz.prog 56 ⟨1,8,.other,[.nilFunc]⟩:=aM (by kernel_rfl) (by kernel_rfl) (by kernel_rfl)
theorem aaN:aD Tryz.prog 57 ⟨1,8,.other,[.nilFunc]⟩:=aM (by kernel_rfl) (by kernel_rfl) (by kernel_rfl)
theorem aaO:aD Tryz.prog 59 ⟨1,8,.other,[.nilFunc]⟩:=aM (by kernel_rfl) (by kernel_rfl) (by kernel_rfl)
theorem aaP:aD Tryz.prog 61 ⟨1,8,.other,[.nilFunc]⟩:=aM (by kernel_rfl) (by kernel_rfl) (by kernel_rfl)
theorem aaQ:aD Tryz.prog 62 ⟨1,8,.other,[.nilFunc]⟩:=aM (by kernel_rfl) (by kernel_rfl) (by kernel_rfl)
theorem aaR:aD Tryz.prog 63 ⟨1,8,.other,[.nilFunc]⟩:=aM (by kernel_rfl) (by kernel_rfl) (by kernel_rfl)
theorem aaS:aD Tryz.prog 64 ⟨1,8,.other,[.nilFunc]⟩:=aM (by kernel_rfl) (by kernel_rfl) (by kernel_rfl)
theorem aaT:aD Tryz.prog 65 ⟨1,8,.other,[.nilFunc]⟩:=aM (by kernel_rfl) (by kernel_rfl) (by kernel_rfl)
theorem aaU:aD Tryz.prog 67 ⟨1,8,.other,[.nilFunc]⟩:=aM (by kernel_rfl) (by kernel_rfl) (by kernel_rfl)
theorem aaV:aD Tryz.prog 68 ⟨1,24,.slice 22,[.slice none 0 0]⟩:=aM (by kernel_rfl) (by kernel_rfl) (by kernel_rfl)
theorem aaW:aD Tryz.prog 69 ⟨1,8,.other,[.nilFunc]⟩:=aM (by kernel_rfl) (by kernel_rfl) (by kernel_rfl)
theorem aaX:aD Tryz.prog 70 ⟨1,8,.other,[.nilFunc]⟩:=aM (by kernel_rfl) (by kernel_rfl) (by kernel_rfl)
theorem aaY:aD Tryz.prog 71 ⟨1,8,.other,[.nilFunc]⟩:=aM (by kernel_rfl) (by kernel_rfl) (by kernel_rfl)
theorem aaZ:aD Tryz.prog 72 ⟨1,8,.other,[.nilFunc]⟩:=aM (by kernel_rfl) (by kernel_rfl) (by kernel_rfl)
theorem aa0:aD Tryz.prog 73 ⟨1,8,.other,[.nilFunc]⟩:=aM (by kernel_rfl) (by kernel_rfl) (by kernel_rfl)
theorem aa1:aD Tryz.prog 74 ⟨1,8,.other,[.nilFunc]⟩:=aM (by kernel_rfl) (by kernel_rfl) (by kernel_rfl)
theorem aa2:aD Tryz.prog 75 ⟨1,8,.other,[.nilFunc]⟩:=aM (by kernel_rfl) (by kernel_rfl) (by kernel_rfl)
theorem aa3:aD Tryz.prog 76 ⟨1,8,.other,[.nilFunc]⟩:=aM (by kernel_rfl) (by kernel_rfl) (by kernel_rfl)
theorem aa4:aD Tryz.prog 77 ⟨1,8,.other,[.nilFunc]⟩:=aM (by kernel_rfl) (by kernel_rfl) (by kernel_rfl)
theorem aa5:aD Tryz.prog 78 ⟨1,8,.other,[.nilFunc]⟩:=aM (by kernel_rfl) (by kernel_rfl) (by kernel_rfl)
theorem aa6:aD Tryz.prog 79 ⟨1,8,.other,[.nilFunc]⟩:=aM (by kernel_rfl) (by kernel_rfl) (by kernel_rfl)
theorem aa7:aD Tryz.prog 80 ⟨1,8,.other,[.nilFunc]⟩:=aM (by kernel_rfl) (by kernel_rfl) (by kernel_rfl)
theorem aa8:aD Tryz.prog 81 ⟨1,8,.other,[.nilFunc]⟩:=aM (by kernel_rfl) (by kernel_rfl) (by kernel_rfl)
theorem aa9:aD Tryz.prog 82 ⟨1,8,.other,[.nilFunc]⟩:=aM (by kernel_rfl) (by kernel_rfl) (by kernel_rfl)
theorem aba:aD Tryz.prog 83 ⟨1,8,.other,[.nilFunc]⟩:=aM (by kernel_rfl) (by kernel_rfl) (by kernel_rfl)
theorem abb:aD Tryz.prog 84 ⟨1,8,.other,[.nilFunc]⟩:=aM (by kernel_rfl) (by kernel_rfl) (by kernel_rfl)
theorem abc:aD Tryz.prog 85 ⟨1,8,.other,[.nilFunc]⟩:=aM (by kernel_rfl) (by kernel_rfl) (by kernel_rfl)
theorem abd:aD Tryz.prog 86 ⟨1,8,.other,[.nilFunc]⟩:=aM (by kernel_rfl) (by kernel_rfl) (by kernel_rfl)
theorem abe:aD Tryz.prog 88 ⟨1,8,.other,[.nilFunc]⟩:=aM (by kernel_rfl) (by kernel_rfl) (by kernel_rfl)
theorem abf:aD Tryz.prog 89 ⟨1,8,.other,[.nilFunc]⟩:=aM (by kernel_rfl) (by kernel_rfl) (by kernel_rfl)
theorem abg:aD Tryz.prog 90 ⟨1,8,.other,[.nilFunc]⟩:=aM (by kernel_rfl) (by kernel_rfl) (by kernel_rfl)
theorem abh:aD Tryz.prog 91 ⟨1,8,.other,[.nilFunc]⟩:=aM (by kernel_rfl) (by kernel_rfl) (by kernel_rfl)
theorem abi:aD Tryz.prog 92 ⟨2,24,.struct [(0,1,false),(1,1,false)],[.bool false,.string ⟨#[]⟩]⟩:=aM (by kernel_rfl) (by kernel_rfl) (by kernel_rfl)
theorem abj:aD Tryz.prog 93 ⟨2,24,.struct [(0,1,false),(1,1,false)],[.bool false,.string ⟨#[]⟩]⟩:=aM (by kernel_rfl) (by kernel_rfl) (by kernel_rfl)
theorem abk:aD Tryz.prog 94 ⟨1,8,.other,[.nilFunc]⟩:=aM (by kernel_rfl) (by kernel_rfl) (by kernel_rfl)
theorem abl:aD Tryz.prog 95 ⟨1,8,.other,[.nilFunc]⟩:=aM (by kernel_rfl) (by kernel_rfl) (by kernel_rfl)
theorem abm:aD Tryz.prog 96 ⟨4,48,.struct [(0,2,true),(2,2,true)],[.bool false,.string ⟨#[]⟩,.bool false,.string ⟨#[]⟩]⟩:=aM (by kernel_rfl) (by kernel_rfl) (by kernel_rfl)
theorem abn:aD Tryz.prog 97 ⟨4,48,.struct [(0,2,true),(2,2,true)],[.bool false,.string ⟨#[]⟩,.bool false,.string ⟨#[]⟩]⟩:=aM (by kernel_rfl) (by kernel_rfl) (by kernel_rfl)
theorem abo:aD Tryz.prog 98 ⟨1,8,.other,[.nilFunc]⟩:=aM (by kernel_rfl) (by kernel_rfl) (by kernel_rfl)
theorem abp:aD Tryz.prog 99 ⟨1,8,.other,[.nilFunc]⟩:=aM (by kernel_rfl) (by kernel_rfl) (by kernel_rfl)
theorem XF:aD Tryz.prog 100 ⟨1,8,.other,[.nilFunc]⟩:=aM (by kernel_rfl) (by kernel_rfl) (by kernel_rfl)
theorem XG:aD Tryz.prog 101 ⟨1,8,.other,[.nilFunc]⟩:=aM (by kernel_rfl) (by kernel_rfl) (by kernel_rfl)
theorem XH:aD Tryz.prog 102 ⟨1,8,.other,[.nilFunc]⟩:=aM (by kernel_rfl) (by kernel_rfl) (by kernel_rfl)
theorem XI:aD Tryz.prog 103 ⟨1,8,.other,[.nilFunc]⟩:=aM (by kernel_rfl) (by kernel_rfl) (by kernel_rfl)
theorem XJ:aD Tryz.prog 104 ⟨1,8,.other,[.nilFunc]⟩:=aM (by kernel_rfl) (by kernel_rfl) (by kernel_rfl)
theorem XL:aD Tryz.prog 105 ⟨1,8,.other,[.nilFunc]⟩:=aM (by kernel_rfl) (by kernel_rfl) (by kernel_rfl)
theorem XM:aD Tryz.prog 106 ⟨1,8,.other,[.nilFunc]⟩:=aM (by kernel_rfl) (by kernel_rfl) (by kernel_rfl)
theorem XN:aD Tryz.prog 107 ⟨1,8,.other,[.nilFunc]⟩:=aM (by kernel_rfl) (by kernel_rfl) (by kernel_rfl)
theorem XO:aD Tryz.prog 108 ⟨1,8,.other,[.nilFunc]⟩:=aM (by kernel_rfl) (by kernel_rfl) (by kernel_rfl)
theorem XP:aD Tryz.prog 110 ⟨1,8,.other,[.nilFunc]⟩:=aM (by kernel_rfl) (by kernel_rfl) (by kernel_rfl)
theorem XQ:aD Tryz.prog 111 ⟨1,8,.other,[.nilFunc]⟩:=aM (by kernel_rfl) (by kernel_rfl) (by kernel_rfl)
theorem XR:aD Tryz.prog 112 ⟨1,8,.other,[.nilFunc]⟩:=aM (by kernel_rfl) (by kernel_rfl) (by kernel_rfl)
theorem XT:aD Tryz.prog 113 ⟨1,8,.other,[.nilFunc]⟩:=aM (by kernel_rfl) (by kernel_rfl) (by kernel_rfl)
theorem XU:aD Tryz.prog 114 ⟨1,8,.other,[.nilFunc]⟩:=aM (by kernel_rfl) (by kernel_rfl) (by kernel_rfl)
theorem XW:aD Tryz.prog 115 ⟨1,24,.slice 3,[.slice none 0 0]⟩:=aM (by kernel_rfl) (by kernel_rfl) (by kernel_rfl)
theorem XX:aD Tryz.prog 116 ⟨1,8,.other,[.nilFunc]⟩:=aM (by kernel_rfl) (by kernel_rfl) (by kernel_rfl)
theorem XY:aD Tryz.prog 117 ⟨1,8,.other,[.nilFunc]⟩:=aM (by kernel_rfl) (by kernel_rfl) (by kernel_rfl)
theorem XZ:aD Tryz.prog 118 ⟨1,8,.other,[.nilFunc]⟩:=aM (by kernel_rfl) (by kernel_rfl) (by kernel_rfl)
theorem X0:aD Tryz.prog 119 ⟨1,8,.other,[.nilFunc]⟩:=aM (by kernel_rfl) (by kernel_rfl) (by kernel_rfl)
theorem X1:aD Tryz.prog 120 ⟨9,120,.struct [(0,3,true),(3,3,true),(6,3,true)],[.bool false,.string ⟨#[]⟩,.string ⟨#[]⟩,.bool false,.string ⟨#[]⟩,.string ⟨#[]⟩,.bool false,.string ⟨#[]⟩,.string ⟨#[]⟩]⟩:=aM (by kernel_rfl) (by kernel_rfl) (by kernel_rfl)
theorem X2:aD Tryz.prog 121 ⟨9,120,.struct [(0,3,true),(3,3,true),(6,3,true)],[.bool false,.string ⟨#[]⟩,.string ⟨#[]⟩,.bool false,.string ⟨#[]⟩,.string ⟨#[]⟩,.bool false,.string ⟨#[]⟩,.string ⟨#[]⟩]⟩:=aM (by kernel_rfl) (by kernel_rfl) (by kernel_rfl)
theorem X3:aD Tryz.prog 123 ⟨1,8,.other,[.nilFunc]⟩:=aM (by kernel_rfl) (by kernel_rfl) (by kernel_rfl)
theorem X4:aD Tryz.prog 124 ⟨1,8,.other,[.nilFunc]⟩:=aM (by kernel_rfl) (by kernel_rfl) (by kernel_rfl)
theorem X5:aD Tryz.prog 125 ⟨1,8,.other,[.nilFunc]⟩:=aM (by kernel_rfl) (by kernel_rfl) (by kernel_rfl)
theorem X6:aD Tryz.prog 126 ⟨1,8,.other,[.nilFunc]⟩:=aM (by kernel_rfl) (by kernel_rfl) (by kernel_rfl)
theorem X7:aD Tryz.prog 127 ⟨1,8,.other,[.nilFunc]⟩:=aM (by kernel_rfl) (by kernel_rfl) (by kernel_rfl)
theorem X8:aD Tryz.prog 128 ⟨1,8,.other,[.nilFunc]⟩:=aM (by kernel_rfl) (by kernel_rfl) (by kernel_rfl)
theorem X9:aD Tryz.prog 129 ⟨1,8,.int .u64,[.int .u64 0]⟩:=aM (by kernel_rfl) (by kernel_rfl) (by kernel_rfl)
theorem Ya:aD Tryz.prog 130 ⟨1,8,.other,[.nilFunc]⟩:=aM (by kernel_rfl) (by kernel_rfl) (by kernel_rfl)
theorem Yb:aD Tryz.prog 131 ⟨1,4,.int .u32,[.int .u32 0]⟩:=aM (by kernel_rfl) (by kernel_rfl) (by kernel_rfl)
theorem Yc:aD Tryz.prog 132 ⟨1,8,.int .u64,[.int .u64 0]⟩:=aM (by kernel_rfl) (by kernel_rfl) (by kernel_rfl)
theorem Yd:aD Tryz.prog 133 ⟨1,24,.slice 131,[.slice none 0 0]⟩:=aM (by kernel_rfl) (by kernel_rfl) (by kernel_rfl)
theorem Ye:aD Tryz.prog 134 ⟨1,24,.slice 131,[.slice none 0 0]⟩:=aM (by kernel_rfl) (by kernel_rfl) (by kernel_rfl)
theorem Yf:aD Tryz.prog 135 ⟨1,8,.other,[.nilFunc]⟩:=aM (by kernel_rfl) (by kernel_rfl) (by kernel_rfl)
theorem Yg:aD Tryz.prog 137 ⟨1,8,.other,[.nilFunc]⟩:=aM (by kernel_rfl) (by kernel_rfl) (by kernel_rfl)
theorem Yh:aD Tryz.prog 138 ⟨1,8,.other,[.nilFunc]⟩:=aM (by kernel_rfl) (by kernel_rfl) (by kernel_rfl)
theorem Yi:aD Tryz.prog 139 ⟨1,8,.other,[.nilFunc]⟩:=aM (by kernel_rfl) (by kernel_rfl) (by kernel_rfl)
theorem Yj:aD Tryz.prog 140 ⟨1,8,.other,[.nilFunc]⟩:=aM (by kernel_rfl) (by kernel_rfl) (by kernel_rfl)
theorem Yk:aD Tryz.prog 142 ⟨1,8,.other,[.nilFunc]⟩:=aM (by kernel_rfl) (by kernel_rfl) (by kernel_rfl)
theorem Yl:aD Tryz.prog 143 ⟨1,8,.other,[.nilFunc]⟩:=aM (by kernel_rfl) (by kernel_rfl) (by kernel_rfl)
theorem Ym:aD Tryz.prog 144 ⟨1,8,.other,[.nilFunc]⟩:=aM (by kernel_rfl) (by kernel_rfl) (by kernel_rfl)
theorem Yn:aD Tryz.prog 146 ⟨1,8,.other,[.nilFunc]⟩:=aM (by kernel_rfl) (by kernel_rfl) (by kernel_rfl)
theorem Yo:aD Tryz.prog 147 ⟨1,8,.other,[.nilFunc]⟩:=aM (by kernel_rfl) (by kernel_rfl) (by kernel_rfl)
theorem Yp:aD Tryz.prog 148 ⟨1,8,.other,[.nilFunc]⟩:=aM (by kernel_rfl) (by kernel_rfl) (by kernel_rfl)
theorem Yq:aD Tryz.prog 149 ⟨1,8,.other,[.nilFunc]⟩:=aM (by kernel_rfl) (by kernel_rfl) (by kernel_rfl)
theorem Yr:aD Tryz.prog 150 ⟨1,8,.other,[.nilFunc]⟩:=aM (by kernel_rfl) (by kernel_rfl) (by kernel_rfl)
theorem Ys:aD Tryz.prog 152 ⟨1,8,.other,[.nilFunc]⟩:=aM (by kernel_rfl) (by kernel_rfl) (by kernel_rfl)
theorem Yt:aD Tryz.prog 153 ⟨1,8,.other,[.nilFunc]⟩:=aM (by kernel_rfl) (by kernel_rfl) (by kernel_rfl)
theorem Yu:aD Tryz.prog 154 ⟨1,8,.other,[.nilFunc]⟩:=aM (by kernel_rfl) (by kernel_rfl) (by kernel_rfl)
theorem Yv:aD Tryz.prog 156 ⟨1,8,.other,[.nilFunc]⟩:=aM (by kernel_rfl) (by kernel_rfl) (by kernel_rfl)
theorem Yw:aD Tryz.prog 157 ⟨1,8,.other,[.nilFunc]⟩:=aM (by kernel_rfl) (by kernel_rfl) (by kernel_rfl)
theorem Yx:aD Tryz.prog 158 ⟨1,8,.other,[.nilFunc]⟩:=aM (by kernel_rfl) (by kernel_rfl) (by kernel_rfl)
theorem Yy:aD Tryz.prog 159 ⟨8,8,.array 8 5,[.int .u8 0,.int .u8 0,.int .u8 0,.int .u8 0,.int .u8 0,.int .u8 0,.int .u8 0,.int .u8 0]⟩:=aM (by kernel_rfl) (by kernel_rfl) (by kernel_rfl)
theorem Yz:aD Tryz.prog 160 ⟨1,24,.slice 5,[.slice none 0 0]⟩:=aM (by kernel_rfl) (by kernel_rfl) (by kernel_rfl)
theorem YA:aD Tryz.prog 162 ⟨1,8,.other,[.nilFunc]⟩:=aM (by kernel_rfl) (by kernel_rfl) (by kernel_rfl)
theorem YB:aD Tryz.prog 163 ⟨1,8,.other,[.nilFunc]⟩:=aM (by kernel_rfl) (by kernel_rfl) (by kernel_rfl)
theorem YC:aD Tryz.prog 164 ⟨1,8,.other,[.nilFunc]⟩:=aM (by kernel_rfl) (by kernel_rfl) (by kernel_rfl)
theorem YD:aD Tryz.prog 165 ⟨1,8,.other,[.nilFunc]⟩:=aM (by kernel_rfl) (by kernel_rfl) (by kernel_rfl)
theorem YE:aD Tryz.prog 167 ⟨1,8,.other,[.nilFunc]⟩:=aM (by kernel_rfl) (by kernel_rfl) (by kernel_rfl)
theorem YF:aD Tryz.prog 168 ⟨1,8,.other,[.nilFunc]⟩:=aM (by kernel_rfl) (by kernel_rfl) (by kernel_rfl)
theorem YG:aD Tryz.prog 169 ⟨1,8,.other,[.nilFunc]⟩:=aM (by kernel_rfl) (by kernel_rfl) (by kernel_rfl)
theorem YH:aD Tryz.prog 170 ⟨1,8,.other,[.nilFunc]⟩:=aM (by kernel_rfl) (by kernel_rfl) (by kernel_rfl)
theorem YI:aD Tryz.prog 172 ⟨1,8,.other,[.nilFunc]⟩:=aM (by kernel_rfl) (by kernel_rfl) (by kernel_rfl)
theorem YJ:aD Tryz.prog 173 ⟨8,128,.array 8 9,[.string ⟨#[]⟩,.string ⟨#[]⟩,.string ⟨#[]⟩,.string ⟨#[]⟩,.string ⟨#[]⟩,.string ⟨#[]⟩,.string ⟨#[]⟩,.string ⟨#[]⟩]⟩:=aM (by kernel_rfl) (by kernel_rfl) (by kernel_rfl)
theorem YK:aD Tryz.prog 177 ⟨4,40,.struct [(0,1,false),(1,1,false),(2,1,false),(3,1,false)],[.pointer none,.pointer none,.pointer none,.string ⟨#[]⟩]⟩:=aM (by kernel_rfl) (by kernel_rfl) (by kernel_rfl)
theorem YL:aD Tryz.prog 178 ⟨4,40,.struct [(0,1,false),(1,1,false),(2,1,false),(3,1,false)],[.pointer none,.pointer none,.pointer none,.string ⟨#[]⟩]⟩:=aM (by kernel_rfl) (by kernel_rfl) (by kernel_rfl)
theorem YM:aD Tryz.prog 182 ⟨1,8,.other,[.nilFunc]⟩:=aM (by kernel_rfl) (by kernel_rfl) (by kernel_rfl)
theorem YN:aD Tryz.prog 183 ⟨1,1,.int .u8,[.int .u8 0]⟩:=aM (by kernel_rfl) (by kernel_rfl) (by kernel_rfl)
theorem YO:aD Tryz.prog 184 ⟨1,1,.int .u8,[.int .u8 0]⟩:=aM (by kernel_rfl) (by kernel_rfl) (by kernel_rfl)
theorem YP:aD Tryz.prog 185 ⟨1,8,.other,[.nilFunc]⟩:=aM (by kernel_rfl) (by kernel_rfl) (by kernel_rfl)
theorem YQ:aD Tryz.prog 187 ⟨1,4,.int .i32,[.int .i32 0]⟩:=aM (by kernel_rfl) (by kernel_rfl) (by kernel_rfl)
theorem YR:aD Tryz.prog 188 ⟨1,4,.int .i32,[.int .i32 0]⟩:=aM (by kernel_rfl) (by kernel_rfl) (by kernel_rfl)
theorem YT:aD Tryz.prog 189 ⟨11,48,.struct [(0,1,false),(1,1,false),(2,1,false),(3,1,false),(4,1,false),(5,1,false),(6,1,false),(7,1,false),(8,1,false),(9,1,false),(10,1,false)],[.int .u64 0,.int .u64 0,.int .u32 0,.int .u8 0,.int .u8 0,.int .u8 0,.int .u8 0,.nilFunc,.pointer none,.int .i32 0,.int .i32 0]⟩:=aM (by kernel_rfl) (by kernel_rfl) (by kernel_rfl)
theorem YU:aD Tryz.prog 190 ⟨11,48,.struct [(0,1,false),(1,1,false),(2,1,false),(3,1,false),(4,1,false),(5,1,false),(6,1,false),(7,1,false),(8,1,false),(9,1,false),(10,1,false)],[.int .u64 0,.int .u64 0,.int .u32 0,.int .u8 0,.int .u8 0,.int .u8 0,.int .u8 0,.nilFunc,.pointer none,.int .i32 0,.int .i32 0]⟩:=aM (by kernel_rfl) (by kernel_rfl) (by kernel_rfl)
theorem YV:aD Tryz.prog 191 ⟨1,16,.struct [(0,1,false)],[.string ⟨#[]⟩]⟩:=aM (by kernel_rfl) (by kernel_rfl) (by kernel_rfl)
theorem YW:aD Tryz.prog 192 ⟨1,16,.struct [(0,1,false)],[.string ⟨#[]⟩]⟩:=aM (by kernel_rfl) (by kernel_rfl) (by kernel_rfl)
theorem uP:∀ t ti,tt t=some ti→aD Tryz.prog t ti:=by
 intro t ti h;unfold tt at h
 split at h
 ·cases h; exact aco
 ·cases h; exact acp
 ·cases h; exact acq
 ·cases h; exact acr
 ·cases h; exact acs
 ·cases h; exact acu
 ·cases h; exact acv
 ·cases h; exact acw
 ·cases h; exact acx
 ·cases h; exact aaa
 ·cases h; exact aab
 ·cases h; exact aac
 ·cases h; exact aad
 ·cases h; exact aae
 ·cases h; exact aaf
 ·cases h; exact aag
 ·cases h; exact aah
 ·cases h; exact aai
 ·cases h; exact aaj
 ·cases h; exact aak
 ·cases h; exact aal
 ·cases h; exact aam
 ·cases h; exact aan
 ·cases h; exact aao
 ·cases h; exact aap
 ·cases h; exact aaq
 ·cases h; exact aar
 ·cases h; exact aas
 ·cases h; exact aat
 ·cases h; exact aau
 ·cases h; exact aav
 ·cases h; exact aaw
 ·cases h; exact aax
 ·cases h; exact aay
 ·cases h; exact aaz
 ·cases h; exact aaA
 ·cases h; exact aaB
 ·cases h; exact aaC
 ·cases h; exact aaD
 ·cases h; exact aaE
 ·cases h; exact aaF
 ·cases h; exact aaG
 ·cases h; exact aaH
 ·cases h; exact aaI
 ·cases h; exact aaJ
 ·cases h; exact aaK
 ·cases h; exact aaL
 ·cases h; exact aaM
 ·cases h; exact aaN
 ·cases h; exact aaO
 ·cases h; exact aaP
 ·cases h; exact aaQ
 ·cases h; exact aaR
 ·cases h; exact aaS
 ·cases h; exact aaT
 ·cases h; exact aaU
 ·cases h; exact aaV
 ·cases h; exact aaW
 ·cases h; exact aaX
 ·cases h; exact aaY
 ·cases h; exact aaZ
 ·cases h; exact aa0
 ·cases h; exact aa1
 ·cases h; exact aa2
 ·cases h; exact aa3
 ·cases h; exact aa4
 ·cases h; exact aa5
 ·cases h; exact aa6
 ·cases h; exact aa7
 ·cases h; exact aa8
 ·cases h; exact aa9
 ·cases h; exact aba
 ·cases h; exact abb
 ·cases h; exact abc
 ·cases h; exact abd
 ·cases h; exact abe
 ·cases h; exact abf
 ·cases h; exact abg
 ·cases h; exact abh
 ·cases h; exact abi
 ·cases h; exact abj
 ·cases h; exact abk
 ·cases h; exact abl
 ·cases h; exact abm
 ·cases h; exact abn
 ·cases h; exact abo
 ·cases h; exact abp
 ·cases h; exact XF
 ·cases h; exact XG
 ·cases h; exact XH
 ·cases h; exact XI
 ·cases h; exact XJ
 ·cases h; exact XL
 ·cases h; exact XM
 ·cases h; exact XN
 ·cases h; exact XO
 ·cases h; exact XP
 ·cases h; exact XQ
 ·cases h; exact XR
 ·cases h; exact XT
 ·cases h; exact XU
 ·cases h; exact XW
 ·cases h; exact XX
 ·cases h; exact XY
 ·cases h; exact XZ
 ·cases h; exact X0
 ·cases h; exact X1
 ·cases h; exact X2
 ·cases h; exact X3
 ·cases h; exact X4
 ·cases h; exact X5
 ·cases h; exact X6
 ·cases h; exact X7
 ·cases h; exact X8
 ·cases h; exact X9
 ·cases h; exact Ya
 ·cases h; exact Yb
 ·cases h; exact Yc
 ·cases h; exact Yd
 ·cases h; exact Ye
 ·cases h; exact Yf
 ·cases h; exact Yg
 ·cases h; exact Yh
 ·cases h; exact Yi
 ·cases h; exact Yj
 ·cases h; exact Yk
 ·cases h; exact Yl
 ·cases h; exact Ym
 ·cases h; exact Yn
 ·cases h; exact Yo
 ·cases h; exact Yp
 ·cases h; exact Yq
 ·cases h; exact Yr
 ·cases h; exact Ys
 ·cases h; exact Yt
 ·cases h; exact Yu
 ·cases h; exact Yv
 ·cases h; exact Yw
 ·cases h; exact Yx
 ·cases h; exact Yy
 ·cases h; exact Yz
 ·cases h; exact YA
 ·cases h; exact YB
 ·cases h; exact YC
 ·cases h; exact YD
 ·cases h; exact YE
 ·cases h; exact YF
 ·cases h; exact YG
 ·cases h; exact YH
 ·cases h; exact YI
 ·cases h; exact YJ
 ·cases h; exact YK
 ·cases h; exact YL
 ·cases h; exact YM
 ·cases h; exact YN
 ·cases h; exact YO
 ·cases h; exact YP
 ·cases h; exact YQ
 ·cases h; exact YR
 ·cases h; exact YT
 ·cases h; exact YU
 ·cases h; exact YV
 ·cases h; exact YW
 ·cases h
def En (cs:List (Nat × uz)) (fs:List (Nat × FT):=[]) (is:List (Nat × (Nat→FT→Nu→FT)):=[]) (ib:Bool:=false):Env:={ tt:=tt,eqs:=[],ib:=ib,Φ:=p9 cs,Ψ:=p9 fs,It:=p9 is }
theorem bH {cs:List (Nat × uz)} {fs:List (Nat × FT)} {is:List (Nat × (Nat→FT→Nu→FT))} {ib:Bool} (h:uU (CX Tryz.prog) cs) (J:uU (gf Tryz.prog) fs):EnvOk Tryz.prog (En cs fs is ib):=⟨uP,(fun _ h=>nomatch h),fun _ _=>wq h,fun _ _=>wq J⟩
theorem vy {cs:List (Nat × uz)} {fs:List (Nat × FT)} {is:List (Nat × (Nat→FT→Nu→FT))} {ib:Bool} (h:uU (zv Tryz.prog) is):gG Tryz.prog (En cs fs is ib):=fun _ _=>wq h
set_option maxRecDepth 20000
open Go Go.Ae
def E0:Env:={ tt:=tt,eqs:=[],Φ:=fun _=>none }
theorem lG:EnvOk Tryz.prog E0:=⟨uP,fun t h=>by simp [E0] at h,fun g S h=>by simp [E0] at h,fun g F h=>by simp [E0] at h⟩
theorem mixed:Tryz.prog.follows .mixedOrders=true:=by kernel_rfl
theorem aP:nj Tryz.prog cK:=Vi mixed
theorem Wg:bh Tryz.prog 197 uq:=by
 refine bk lG aP Tryz.func197 (enters_of Tryz.func197 (by kernel_rfl) rfl) (fun _=>rfl) (fun _=>rfl) ?_
 intro ⟨x,y,c⟩ hp;have hp:x < 4294967296∧y < 4294967296∧c≤1:=hp;simp only [uq];conv=>whnf
 simp (disch:=omega) only [bL,wx,cf]
 congr
 omega
theorem Nb:bh Tryz.prog 167 kV:=by
 refine bk lG aP Tryz.func167 (enters_of Tryz.func167 (by kernel_rfl) rfl) (fun _=>rfl) (fun _=>rfl) ?_
 intro ⟨x,y,c⟩ hp;have hp:x < 4294967296∧y < 4294967296∧c≤1:=hp;simp only [kV];conv=>whnf
 show Value.tuple ⟨[.int .u32 (Cq x y c),.int .u32 (GS x y c)]⟩=_
 rw [LU hp.1 hp.2.1 hp.2.2,Ue hp.1 hp.2.1 hp.2.2]
 split <;> rfl
theorem Wh:bh Tryz.prog 195 Cr:=by
 refine bk lG aP Tryz.func195 (enters_of Tryz.func195 (by kernel_rfl) rfl) (fun _=>rfl) (fun _=>rfl) ?_
 intro ⟨x,y,c⟩ hp;have hp:x < c∧y < 4294967296∧c < 4294967296:=hp;simp only [Cr];conv=>whnf
 have h1:((c:Int) != 0)=true:=by simp; omega
 have J:decide ((c:Int)≤(x:Int))=false:=by simp; omega
 simp only [h1];conv=>whnf
 simp only [J];conv=>whnf
 refine .inl ⟨11,[[],[],[1],[0,1,2],[0,1,2,3],[],[],[6],[5,6,7],[5,6,7,8],[0,1,2,3,4],[0,1,2,3,4,5,6,7,8,9,10]],by kernel_rfl,?_⟩
 conv=>whnf
 try simp (disch:=omega) only [ay,bL,db,dD,cf,dU,dv,dW,c5,dh,dt,dB,dw,dK,toNat_cast,aB,Nat.zero_add,dT,toNat_0,toNat_1,Nat.sub_zero,dZ,ef,eF,eG,dM,dY,dV,eg]
 refine mP (decide_eq_true (by omega)) ?_
 conv=>whnf
 refine mP (decide_eq_true (by rw [bL (by omega) (by omega)]; omega)) ?_
 conv=>whnf
 try simp (disch:=omega) only [ay,bL,db,dD,cf,dU,dv,dW,c5,dh,dt,dB,dw,dK,toNat_cast,aB,Nat.zero_add,dT,toNat_0,toNat_1,Nat.sub_zero,dZ,ef,eF,eG,dM,dY,dV,eg]
 have e1:((x:Int)*4294967296+y).tdiv c=((x*4294967296+y) / c:Nat):=rfl;have e2:((x:Int)*4294967296+y).tmod c=((x*4294967296+y) % c:Nat):=rfl;have e3:(x*4294967296+y) / c < 4294967296:=by
  refine (Nat.div_lt_iff_lt_mul (by omega)).2 ?_
  have:(x+1)*4294967296≤c*4294967296:=Nat.mul_le_mul_right _ hp.1;omega
 have e4:(x*4294967296+y) % c < c:=Nat.mod_lt _ (by omega)
 generalize (x*4294967296+y) / c=q at *;generalize (x*4294967296+y) % c=r at *;rw [e1,e2,bL (by omega) (by omega),db (by omega) (by omega),db (by omega) (by omega)]
theorem Wi:bh Tryz.prog 196 GV:=by
 refine bk lG aP Tryz.func196 (enters_of Tryz.func196 (by kernel_rfl) rfl) (fun _=>rfl) (fun _=>rfl) ?_
 intro (x:Nat) (hx:x < 4294967296);simp only [GV];have fin:∀ (y k:Nat),y < 256→∀ (T:ByteArray),(∀ x,x < 256→bZ T x=fa x)→k≤24→IntKind.i64.wrap ((k:Int)+IntKind.i64.wrap (bZ T (IntKind.u8.wrap (y:Int)).toNat:Int))=((k+fa y:Nat):Int):=by
  intro y k hy T hT hk;have hb:=WO hy;rw [dD (by omega) (by omega),toNat_cast,hT y hy]
  simp (disch:=omega) only [ay];omega
 conv=>whnf
 refine aN (fun h=>?_) (fun h=>?_)
 ·have h:65536≤x:=by simp at h; omega
  conv=>whnf
  have e1:(x:Int).fdiv (2 ^ min (Int.toNat 16) IntKind.u32.bits)=((x / 65536:Nat):Int):=by rw [dt]; rfl
  simp only [e1];refine aN (fun J=>?_) (fun J=>?_)
  ·have J:256≤x / 65536:=by simp at J; omega
   conv=>whnf
   have e2:((x / 65536:Nat):Int).fdiv (2 ^ min (Int.toNat 8) IntKind.u32.bits)=((x / 65536 / 256:Nat):Int):=by rw [dh]; rfl
   simp only [e2];refine ⟨⟨?_,?_⟩,?_⟩
   ·rw [kQ]; omega
   ·show _ < ((256:Nat):Int)
    rw [kQ]; omega
   ·conv=>whnf
    have e3:IntKind.i64.wrap (16+8)=((24:Nat):Int):=rfl;rw [e3];refine congrArg (Value.int .i64) ((fin (x / 65536 / 256) 24 (by omega) _ (by decide +kernel) (by omega)).trans ?_)
    have a1:=Ba (x:=x) (k:=16) (by omega)
    have a2:=Ba (x:=x / 65536) (k:=8) (by omega)
    have q1:(2:Nat) ^ 16=65536:=rfl;have q2:(2:Nat) ^ 8=256:=rfl;rw [q1] at a1;rw [q2] at a2;rw [a1,a2]; omega
  ·have J:x / 65536 < 256:=by simp at J; omega
   conv=>whnf
   refine ⟨⟨?_,?_⟩,?_⟩
   ·rw [kQ]; omega
   ·show _ < ((256:Nat):Int)
    rw [kQ]; omega
   ·conv=>whnf
    refine congrArg (Value.int .i64) ((fin (x / 65536) 16 (by omega) _ (by decide +kernel) (by omega)).trans ?_)
    have a1:=Ba (x:=x) (k:=16) (by omega)
    have q1:(2:Nat) ^ 16=65536:=rfl;rw [q1] at a1;rw [a1]
 ·have h:x < 65536:=by simp at h; omega
  conv=>whnf
  refine aN (fun J=>?_) (fun J=>?_)
  ·have J:256≤x:=by simp at J; omega
   conv=>whnf
   have e2:(x:Int).fdiv (2 ^ min (Int.toNat 8) IntKind.u32.bits)=((x / 256:Nat):Int):=by rw [dh]; rfl
   simp only [e2];refine ⟨⟨?_,?_⟩,?_⟩
   ·rw [kQ]; omega
   ·show _ < ((256:Nat):Int)
    rw [kQ]; omega
   ·conv=>whnf
    have e3:IntKind.i64.wrap (0+8)=((8:Nat):Int):=rfl;rw [e3];refine congrArg (Value.int .i64) ((fin (x / 256) 8 (by omega) _ (by decide +kernel) (by omega)).trans ?_)
    have a1:=Ba (x:=x) (k:=8) (by omega)
    have q1:(2:Nat) ^ 8=256:=rfl;rw [q1] at a1;rw [a1]
  ·have J:x < 256:=by simp at J; omega
   conv=>whnf
   refine ⟨⟨?_,?_⟩,?_⟩
   ·rw [kQ]; omega
   ·show _ < ((256:Nat):Int)
    rw [kQ]; omega
   ·conv=>whnf
    refine congrArg (Value.int .i64) ((fin x 0 (by omega) _ (by decide +kernel) (by omega)).trans ?_)
    rw [Nat.zero_add]
def E1:Env:={ tt:=tt,eqs:=[],Φ:=fun g=>match g with | 196=>some (.p GV) | _=>none }
theorem ad7:EnvOk Tryz.prog E1:=⟨uP,fun t h=>by simp [E1] at h,(fun g S h=>by
 simp only [E1] at h
 split at h
 ·cases h; exact Wi
 ·cases h),fun g F h=>by simp [E1] at h⟩
theorem YX:bh Tryz.prog 184 CL:=by
 refine bk ad7 aP Tryz.func184 (enters_of Tryz.func184 (by kernel_rfl) rfl) (fun _=>rfl) (fun _=>rfl) ?_
 intro (x:Nat) (hx:x < 4294967296);simp only [CL];conv=>whnf
 refine ⟨x,rfl,hx,?_⟩;conv=>whnf
 have hb:=ME hx;rw [ay (by omega) (by omega)]
 congr 1; omega
open Go Go.Ae
theorem F8:bh Tryz.prog 165 kv:=by
 refine bk lG aP Tryz.func165 (enters_of Tryz.func165 (by kernel_rfl) rfl) (fun _=>rfl) (fun _=>rfl) ?_
 intro (s:ByteArray) (hs:s.size≤1099511627776);simp only [kv];conv=>whnf
 refine .inl ⟨fun mm tz hz=>∃ (u:ByteArray),bB (some (.string u)::aG 12 []) tz∧hz=[]∧u.size=mm∧(ab u=ab s∧u.size≤s.size),.inl ⟨_,s,(.aa (.sk 12 .nil rfl)),rfl,rfl,?_⟩,?_⟩
 ·exact ⟨rfl,Nat.le_refl _⟩
 rintro mm aW _ ⟨u,aC,rfl,rfl,⟨hu,hle⟩⟩
 obtain ⟨az,rfl⟩:∃ az:Nat→Value,aW=.string u::zs az 1 12 []:=bI aC;clear aC;conv=>whnf
 refine aN (fun h1=>?_) (fun h1=>?_)
 ·simp only [h1];conv=>whnf
  rw [pZ] at h1;have h1:u.size≠0:=fun h=>by simp [Fk.2 h] at h1
  refine ⟨⟨by omega,by omega⟩,?_⟩
  conv=>whnf
  refine aN (fun J=>?_) (fun J=>?_)
  ·conv=>whnf
   refine ⟨⟨by omega,by omega,by omega⟩,?_⟩
   conv=>whnf
   have e1:u.extract (Int.toNat 1) (Int.toNat u.size)=u.extract 1 u.size:=rfl;have J:bZ u 0=0:=by
    have J:((bZ u 0:Nat):Int)=0:=by simpa using J
    omega
   have h3:=tN (s:=u) (i:=0) (by omega)
   have h4:=gn u;have bc:(u.extract 1 u.size).size=u.size - 1:=D9 (by omega) (Nat.le_refl _)
   have hb:ab (u.extract 1 u.size)=ab u:=by
    rw [Eo (by omega) (Nat.le_refl _),Nat.sub_self,Nat.pow_zero,Nat.div_one]
    refine Nat.mod_eq_of_lt ?_;rw [J,Nat.sub_zero] at h3;have h5:ab u / C ^ (u.size - 1) < C:=(Nat.div_lt_iff_lt_mul (gO _)).2 (by
     rw [Nat.mul_comm,← Nat.pow_succ,show (u.size - 1).succ=u.size by omega]; exact h4)
    rw [Nat.mod_eq_of_lt h5] at h3;rcases Nat.lt_or_ge (ab u) (C ^ (u.size - 1)) with h6 | h6
    ·exact h6
    ·have:=Nat.div_pos h6 (gO _);omega
   refine .inl ⟨_,?_,u.extract 1 u.size,(.aa (.sk 12 .nil rfl)),rfl,rfl,?_⟩
   ·rw [bc]; omega
   ·exact ⟨by rw [hb,hu],by rw [bc]; omega⟩
  ·conv=>whnf
   have J:bZ u 0≠0:=by
    intro h;have e:bZ u (Int.toNat 0)=bZ u 0:=rfl;rw [e,h] at J;simp at J
   rw [← hu,← yM (.inr J)]
 ·simp only [h1];conv=>whnf
  rw [pZ] at h1;have h1:u=⟨#[]⟩:=by simpa using h1
  have J:u.size=0:=Fk.1 h1;rw [← hu,← yM (.inl J)]
def Ea:Env:={ tt:=tt,eqs:=[],Φ:=fun g=>match g with
 | 165=>some (.p kv)
 | _=>none }
theorem Dk:EnvOk Tryz.prog Ea:=⟨uP,fun t h=>by simp [Ea] at h,(fun g S h=>by
 simp only [Ea] at h
 split at h
 ·cases h; exact F8
 ·cases h),fun g F h=>by simp [Ea] at h⟩
theorem Cb:dk Tryz.prog 161 r8:=by
 refine eI Dk aP Tryz.func161 (enters_of Tryz.func161 (by kernel_rfl) rfl) ?_ ?_ ?_
 ·intro i b hb;cases i with
  | none=>simp [r8,LV.ae] at hb
  | some i=>simp [r8,LV.ae] at hb; rw [hb]; rfl
 ·intro i b hb; simp [r8] at hb
 intro i hp;cases i with
 | none =>
  conv=>whnf
  refine .inr ⟨1,?_⟩;conv=>whnf
  exact ⟨_,rfl,.refl _⟩
 | some i =>
  obtain ⟨n,N,c⟩:=i;have hp:N < 4294967296 ^ n∧n≤274877906944:=hp;conv=>whnf
  refine .inl ⟨fun mm tz hz=>∃ (m:Nat),bB (some (.slice (some ⟨0,0,none⟩) m c)::aG 20 []) tz∧hz=[some (.flat false n 1 (bo N))]∧m=mm∧(N < 4294967296 ^ m∧m≤n),.inl ⟨_,n,(.aa (.sk 20 .nil rfl)),rfl,rfl,?_⟩,?_⟩
  ·exact ⟨hp.1,Nat.le_refl _⟩
  rintro mm aW _ ⟨m,aC,rfl,rfl,h⟩
  obtain ⟨az,rfl⟩:∃ az:Nat→Value,aW=.slice (some ⟨0,0,none⟩) m c::zs az 1 20 []:=bI aC;clear aC;conv=>whnf
  refine aN (fun h1=>?_) (fun h1=>?_)
  ·simp only [h1];have h1:0 < m:=by simpa using h1
   conv=>whnf
   try simp (disch:=omega) only [ay,bL,db,dD,cf,dU,dv,dW,c5,dh,dt,dB,dw,dK,toNat_cast,aB,Nat.zero_add,dT,toNat_0,toNat_1,Nat.sub_zero,dZ,ef,eF,eG,dM,dY,dV,eg]
   refine ⟨⟨by omega,by omega⟩,?_⟩
   try simp (disch:=omega) only [ay,bL,db,dD,cf,dU,dv,dW,c5,dh,dt,dB,dw,dK,toNat_cast,aB,Nat.zero_add,dT,toNat_0,toNat_1,Nat.sub_zero,dZ,ef,eF,eG,dM,dY,dV,eg]
   conv=>whnf
   refine ⟨by omega,?_⟩
   conv=>whnf
   refine aN (fun J=>?_) (fun J=>?_)
   ·have J:an N (m - 1)=0:=by
     have J:((an N (m - 1):Nat):Int)=0:=by simpa using J
     omega
    conv=>whnf
    try simp (disch:=omega) only [ay,bL,db,dD,cf,dU,dv,dW,c5,dh,dt,dB,dw,dK,toNat_cast,aB,Nat.zero_add,dT,toNat_0,toNat_1,Nat.sub_zero,dZ,ef,eF,eG,dM,dY,dV,eg]
    refine ⟨⟨by omega,by omega,by omega⟩,?_⟩
    try simp (disch:=omega) only [ay,bL,db,dD,cf,dU,dv,dW,c5,dh,dt,dB,dw,dK,toNat_cast,aB,Nat.zero_add,dT,toNat_0,toNat_1,Nat.sub_zero,dZ,ef,eF,eG,dM,dY,dV,eg]
    conv=>whnf
    refine .inl ⟨_,?_,m - 1,(.aa (.sk 20 .nil rfl)),rfl,rfl,?_⟩
    ·omega
    ·refine ⟨?_,by omega⟩
     have h3:=mod_succ N (m - 1);have h4:=Nat.mod_lt N (eE (m - 1));rw [show m - 1+1=m by omega,J,Nat.mod_eq_of_lt h.1] at h3
     have h5:N % B ^ (m - 1) < 4294967296 ^ (m - 1):=h4;omega
   ·have J:an N (m - 1)≠0:=by
     intro h;rw [h] at J;simp at J
    conv=>whnf
    have e:=OT (N:=N) (n:=m) h.1 (.inr J);refine ⟨_,rfl,?_⟩;rw [e];exact .refl _
  ·simp only [h1];have h1:m=0:=by simpa using h1
   conv=>whnf
   have e:=OT (N:=N) (n:=m) h.1 (.inl h1);refine ⟨_,rfl,?_⟩;rw [e];exact .refl _
theorem Cc:dk Tryz.prog 135 uI:=by
 refine eI Dk aP Tryz.func135 (enters_of Tryz.func135 (by kernel_rfl) rfl) ?_ ?_ ?_
 ·intro i b hb; simp [uI] at hb
 ·intro i b hb; simp [uI] at hb; rw [← hb]; rfl
 intro (s:ByteArray) (hs:s.size≤1099511627776);conv=>whnf
 refine ⟨s,rfl,hs,?_⟩;conv=>whnf
 have bc:=iZ s;have cE:=Of (ab s);generalize hN:ab s=N at *;have e1:IntKind.i64.wrap ((IntKind.i64.wrap (IntKind.i64.wrap (((nb N).size:Int)+4) - 1)).tdiv 4)=((nl N:Nat):Int):=by
  rw [gy];simp (disch:=omega) only [ay];have:((aT N:Int)+4 - 1)=((aT N+3:Nat):Int):=by omega
  rw [this,dM,ay (by omega) (by omega),cE]
 simp only [e1];refine ⟨⟨by omega,by omega,by show _*((4:Nat):Int)≤_; omega⟩,?_⟩
 try simp (disch:=omega) only [ay,bL,db,dD,cf,dU,dv,dW,c5,dh,dt,dB,dw,dK,toNat_cast,aB,Nat.zero_add,dT,toNat_0,toNat_1,Nat.sub_zero,dZ,ef,eF,eG,dM,dY,dV,eg]
 conv=>whnf
 simp only [tD];refine .inl ⟨fun mm tz hz=>∃ (i:Nat) (Y:Nat),bB (some (.string (nb N))::aG 2 (some (.slice (some ⟨0,0,none⟩) (nl N) (nl N))::aG 11 (some (.int .i64 (nb N).size)::some (.int .i64 i)::aG 24 []))) tz∧hz=[some (.flat true (nl N) 1 (bo Y))]∧aT N - i=mm∧(i≤aT N∧Y=N % C ^ i),.inl ⟨_,0,0,(.aa (.sk 2 (.aa (.sk 11 (.aa (.aa (.sk 24 .nil rfl))) rfl)) rfl)),rfl,rfl,?_⟩,?_⟩
 ·exact ⟨Nat.zero_le _,by simp [Nat.mod_one]⟩
 rintro mm aW _ ⟨i,Y,aC,rfl,rfl,⟨h,hY⟩⟩
 obtain ⟨az,rfl⟩:∃ az:Nat→Value,aW=.string (nb N)::zs az 1 2 (.slice (some ⟨0,0,none⟩) (nl N) (nl N)::zs az 4 11 (.int .i64 (nb N).size::.int .i64 i::zs az 17 24 [])):=bI aC;clear aC;have C7:=gy N;conv=>whnf
 refine aN (fun h1=>?_) (fun h1=>?_)
 ·have h1:i < aT N:=by rw [C7] at h1; simpa using h1
  conv=>whnf
  have At:=we (nb N) ((nb N).size - 1 - i);have dq:bZ (nb N) ((nb N).size - 1 - i)=N / C ^ i % C:=by
   rw [tN (by omega),g8]; congr 3; omega
  obtain ⟨ax,al⟩:=Uf N i;rw [← hY,← dq] at ax;rw [← hY] at al;have hd:=SQ _ _ _ al At (Nat.mod_lt _ (by omega))
  have bS:an Y (i / 4)+bZ (nb N) ((nb N).size - 1 - i)*256 ^ (i % 4) < B:=by
   have J:(bZ (nb N) ((nb N).size - 1 - i)+1)*256 ^ (i % 4)≤256*256 ^ (i % 4):=Nat.mul_le_mul_right _ At;have h3:256*256 ^ (i % 4)≤B:=by
    have:(256:Nat) ^ (i % 4)≤256 ^ 3:=Nat.pow_le_pow_right (by decide) (by omega)
    have e:(256:Nat) ^ 3=16777216:=rfl;have e2:B=4294967296:=rfl;omega
   rw [Nat.add_mul] at J;omega
  refine .inl ⟨13,[[],[],[1],[0,1,2],[0,1,2,3],[],[],[5,6],[5,6,7],[],[9],[9,10],[5,6,7,8,9,10,11],[0,1,2,3,4,5,6,7,8,9,10,11,12],[0,1,2,3,4,5,6,7,8,9,10,11,12,13],[0,1,2,3,4,5,6,7,8,9,10,11,12,13,14]],by kernel_rfl,?_⟩
  conv=>whnf
  try simp (disch:=omega) only [ay,bL,db,dD,cf,dU,dv,dW,c5,dh,dt,dB,dw,dK,toNat_cast,aB,Nat.zero_add,dT,toNat_0,toNat_1,Nat.sub_zero,dZ,ef,eF,eG,dM,dY,dV,eg]
  refine ⟨⟨by omega,by omega⟩,?_⟩
  conv=>whnf
  refine ⟨by show i / 4 < nl N; omega,?_⟩
  conv=>whnf
  refine ⟨⟨by omega,by omega⟩,?_⟩
  conv=>whnf
  have aez:bZ (nb N) ((nb N).size - 1 - i) < 256:=At
  try simp (disch:=omega) only [ay,bL,db,dD,cf,dU,dv,dW,c5,dh,dt,dB,dw,dK,toNat_cast,aB,Nat.zero_add,dT,toNat_0,toNat_1,Nat.sub_zero,dZ,ef,eF,eG,dM,dY,dV,eg]
  simp only [Int.natCast_nonneg,decide_true];conv=>whnf
  simp only [hd];refine ⟨⟨by omega,by omega⟩,?_⟩
  conv=>whnf
  refine ⟨by show i / 4 < nl N; omega,?_⟩
  conv=>whnf
  try simp (disch:=omega) only [ay,bL,db,dD,cf,dU,dv,dW,c5,dh,dt,dB,dw,dK,toNat_cast,aB,Nat.zero_add,dT,toNat_0,toNat_1,Nat.sub_zero,dZ,ef,eF,eG,dM,dY,dV,eg]
  rw [fw bS,ax];refine .inr ⟨[0],[0,3,15,16],?_⟩;conv=>whnf
  intro _;conv=>whnf
  refine ⟨_,?_,i+1,N % C ^ (i+1),(.aa (.sk 2 (.aa (.sk 11 (.aa (.aa (.sk 24 .nil rfl))) rfl)) rfl)),rfl,rfl,?_⟩
  ·omega
  ·exact ⟨by omega,rfl⟩
 ·have h1:i=aT N:=by
   have h1:¬ i < aT N:=by rw [C7] at h1; simpa using h1
   omega
  subst h1;have hYN:Y=ab s:=by rw [hY,hN,Nat.mod_eq_of_lt (kU N)]
  conv=>whnf
  refine ⟨0,?_⟩;conv=>whnf
  rw [hYN,hN];refine ⟨⟨rfl,ar.aE (fun h=>by cases h) (fun r hr=>rfl)⟩,_,rfl,?_⟩
  rw [hN];exact .cap _ _ _ rfl
open Go Go.Ae
theorem Wj:dk Tryz.prog 162 yN:=by
 refine eI Dk aP Tryz.func162 (enters_of Tryz.func162 (by kernel_rfl) rfl) ?_ ?_ ?_
 ·intro i b hb;cases i with
  | none=>simp [yN,LV.ae] at hb
  | some i=>simp [yN,LV.ae] at hb; rw [hb]; rfl
 ·intro i b hb; simp [yN] at hb
 intro i hp;cases i with
 | none =>
  conv=>whnf
  refine .inr ⟨1,?_⟩;conv=>whnf
  refine ⟨⟨#[]⟩,rfl,Nat.zero_le _,?_⟩;conv=>whnf
  exact ⟨_,rfl,.refl _⟩
 | some i =>
  obtain ⟨n,N,c⟩:=i;have hp:N < 4294967296 ^ n∧n≤274877906944:=hp;conv=>whnf
  refine .inl ⟨fun mm tz hz=>∃ (i:Nat) (out:Value) (hp:aA),bB (some (.slice (some ⟨0,0,none⟩) n c)::aG 2 (some (out)::some (.int .i64 (IntKind.i64.wrap ((i:Int) - 1)))::aG 36 [])) tz∧hz=hp∧i=mm∧(i≤n∧((out=.slice none 0 0∧hp=[some (.flat false n 1 (bo N))]∧i=n)∨(∃ m g,out=.slice (some ⟨1,0,none⟩) m aO∧hp=[some (.flat false n 1 (bo N)),some (.flat true m 1 g)]∧m=4*(n - i)∧∀ r,r < m→g r=[.int .u8 ((N / B ^ i / C ^ (m - 1 - r) % C:Nat):Int)]))),.inl ⟨_,n,.slice none 0 0,[some (.flat false n 1 (bo N))],(.aa (.sk 2 (.aa (.aa (.sk 36 .nil rfl))) rfl)),rfl,rfl,?_⟩,?_⟩
  ·exact ⟨Nat.le_refl _,.inl ⟨rfl,rfl,rfl⟩⟩
  rintro mm aW _ ⟨i,out,hp,aC,rfl,rfl,⟨hi,h⟩⟩
  obtain ⟨az,rfl⟩:∃ az:Nat→Value,aW=.slice (some ⟨0,0,none⟩) n c::zs az 1 2 (out::.int .i64 (IntKind.i64.wrap ((i:Int) - 1))::zs az 5 36 []):=bI aC;clear aC;rcases h with ⟨rfl,rfl,rfl⟩ | ⟨m,g,rfl,rfl,rfl,hg⟩
  ·-- nothing written yet
   conv=>whnf
   refine aN (fun h1=>?_) (fun h1=>?_)
   ·have h1:0 < i:=by
     rcases Nat.eq_zero_or_pos i with h | h
     ·subst h; revert h1; decide
     ·exact h
    have hl:=cI N (i - 1);have hl:an N (i - 1) < 4294967296:=hl;have ei:IntKind.i64.wrap ((i:Int) - 1)=((i - 1:Nat):Int):=by rw [ay (by omega) (by omega)]; omega
    simp only [ei];conv=>whnf
    refine .inl ⟨25,[[],[],[],[1,2],[1,2,3],[1,2,3,4],[1,2,3,4,5],[],[],[7,8],[7,8,9],[7,8,9,10],[7,8,9,10,11],[],[],[13,14],[13,14,15],[13,14,15,16],[13,14,15,16,17],[],[],[19,20],[19,20,21],[19,20,21,22],[1,2,3,4,5,6,7,8,9,10,11,12,13,14,15,16,17,18,19,20,21,22,23],[0,1,2,3,4,5,6,7,8,9,10,11,12,13,14,15,16,17,18,19,20,21,22,23,24],[0,1,2,3,4,5,6,7,8,9,10,11,12,13,14,15,16,17,18,19,20,21,22,23,24,25]],by kernel_rfl,?_⟩
    conv=>whnf
    refine ⟨⟨by omega,by omega⟩,?_⟩
    simp only [toNat_cast,aB,Nat.zero_add];conv=>whnf
    refine ⟨by omega,?_⟩
    conv=>whnf
    refine ⟨⟨by omega,by omega⟩,?_⟩
    simp only [toNat_cast,aB,Nat.zero_add];conv=>whnf
    refine ⟨by omega,?_⟩
    conv=>whnf
    refine ⟨⟨by omega,by omega⟩,?_⟩
    simp only [toNat_cast,aB,Nat.zero_add];conv=>whnf
    refine ⟨by omega,?_⟩
    conv=>whnf
    refine ⟨⟨by omega,by omega⟩,?_⟩
    simp only [toNat_cast,aB,Nat.zero_add];conv=>whnf
    refine ⟨by omega,?_⟩
    conv=>whnf
    simp only [dB,dt,dh,OU,OV,PB,PC];refine ⟨by decide,?_⟩
    conv=>whnf
    refine .inr ⟨[0,26],[0,3,4],?_⟩;conv=>whnf
    intro _;conv=>whnf
    refine ⟨_,?_,i - 1,.slice (some ⟨1,0,none⟩) 4 aO,[some (.flat false i 1 (bo N)),some (.flat true 4 1 _)],(.aa (.sk 2 (.aa (.aa (.sk 36 .nil rfl))) rfl)),rfl,rfl,?_⟩
    ·omega
    ·refine ⟨by omega,.inr ⟨4,_,rfl,rfl,by omega,fun r hr=>?_⟩⟩
     have:=K8 (N:=N) (i:=i) (m:=0) (g:=fun _=>[]) h1 (fun r hr=>absurd hr (by omega)) rfl rfl rfl rfl r (by omega)
     rw [gm (by omega),Nat.sub_zero] at this
     rw [this]
   ·have h1:i=0:=by
     rcases Nat.eq_zero_or_pos i with h | h
     ·exact h
     ·rw [ay (by omega) (by omega)] at h1
      simp at h1; omega
    subst h1;have hN:N=0:=by simpa using hp.1
    subst hN;conv=>whnf
    refine ⟨⟨#[]⟩,rfl,Nat.zero_le _,?_⟩;conv=>whnf
    exact ⟨_,rfl,.refl _⟩
  ·-- behind the first limb
   conv=>whnf
   refine aN (fun h1=>?_) (fun h1=>?_)
   ·have h1:0 < i:=by
     rcases Nat.eq_zero_or_pos i with h | h
     ·subst h; revert h1; decide
     ·exact h
    have hl:=cI N (i - 1);have hl:an N (i - 1) < 4294967296:=hl;have ei:IntKind.i64.wrap ((i:Int) - 1)=((i - 1:Nat):Int):=by rw [ay (by omega) (by omega)]; omega
    simp only [ei];conv=>whnf
    refine .inl ⟨25,[[],[],[],[1,2],[1,2,3],[1,2,3,4],[1,2,3,4,5],[],[],[7,8],[7,8,9],[7,8,9,10],[7,8,9,10,11],[],[],[13,14],[13,14,15],[13,14,15,16],[13,14,15,16,17],[],[],[19,20],[19,20,21],[19,20,21,22],[1,2,3,4,5,6,7,8,9,10,11,12,13,14,15,16,17,18,19,20,21,22,23],[0,1,2,3,4,5,6,7,8,9,10,11,12,13,14,15,16,17,18,19,20,21,22,23,24],[0,1,2,3,4,5,6,7,8,9,10,11,12,13,14,15,16,17,18,19,20,21,22,23,24,25]],by kernel_rfl,?_⟩
    conv=>whnf
    refine ⟨⟨by omega,by omega⟩,?_⟩
    simp only [toNat_cast,aB,Nat.zero_add];conv=>whnf
    refine ⟨by omega,?_⟩
    conv=>whnf
    refine ⟨⟨by omega,by omega⟩,?_⟩
    simp only [toNat_cast,aB,Nat.zero_add];conv=>whnf
    refine ⟨by omega,?_⟩
    conv=>whnf
    refine ⟨⟨by omega,by omega⟩,?_⟩
    simp only [toNat_cast,aB,Nat.zero_add];conv=>whnf
    refine ⟨by omega,?_⟩
    conv=>whnf
    refine ⟨⟨by omega,by omega⟩,?_⟩
    simp only [toNat_cast,aB,Nat.zero_add];conv=>whnf
    refine ⟨by omega,?_⟩
    conv=>whnf
    simp only [dB,dt,dh,OU,OV,PB,PC];refine ⟨⟨by decide,rfl,?_⟩,?_⟩
    ·show (4*(n - i)+4)*1≤_
     omega
    conv=>whnf
    refine ⟨[0,4],?_⟩;conv=>whnf
    intro _;conv=>whnf
    refine .inr ⟨[0,1],[0,3,4],?_⟩;conv=>whnf
    intro _;conv=>whnf
    refine ⟨_,?_,i - 1,.slice (some ⟨1,0,none⟩) (4*(n - i)+4) aO,[some (.flat false n 1 (bo N)),some (.flat true (4*(n - i)+4) 1 _)],(.aa (.sk 2 (.aa (.aa (.sk 36 .nil rfl))) rfl)),rfl,rfl,?_⟩
    ·omega
    ·exact ⟨by omega,.inr ⟨4*(n - i)+4,_,rfl,rfl,by omega,K8 h1 hg rfl rfl rfl rfl⟩⟩
   ·have h1:i=0:=by
     rcases Nat.eq_zero_or_pos i with h | h
     ·exact h
     ·rw [ay (by omega) (by omega)] at h1
      simp at h1; omega
    subst h1;rw [Nat.pow_zero,Nat.div_one] at hg;rw [Nat.sub_zero] at hg;have al:N < C ^ (4*n):=by rw [← Da]; exact hp.1
    by_cases hn:n=0
    ·subst hn;have hN:N=0:=by simpa using hp.1
     subst hN;conv=>whnf
     refine ⟨⟨#[]⟩,rfl,Nat.zero_le _,?_⟩;conv=>whnf
     exact ⟨_,rfl,.refl _⟩
    ·obtain ⟨m,hm⟩:∃ m,4*n=m+1:=⟨4*n - 1,by omega⟩
     rw [hm] at hg al;rw [Nat.sub_zero,hm];have hs:=vZ hg;conv=>whnf
     refine ⟨⟨by show 0+(m+1)≤m+1; omega,fun r hr=>⟨_,by show g (0+r)=_; rw [Nat.zero_add]; exact hg r hr⟩⟩,?_⟩
     rw [show (aj.flat true (m+1) 1 g).row=g from rfl,hs]
     conv=>whnf
     refine ⟨be (m+1) N,rfl,?_,?_⟩
     ·show (be (m+1) N).size≤_
      rw [wJ]; omega
     conv=>whnf
     rw [Gm,Nat.mod_eq_of_lt al];exact ⟨_,rfl,.refl _⟩
def Eb:Env:={ tt:=tt,eqs:=[],Φ:=fun g=>match g with
 | 165=>some (.p kv)
 | 161=>some (.q r8)
 | 162=>some (.q yN)
 | 135=>some (.q uI)
 | _=>none }
theorem PS:EnvOk Tryz.prog Eb:=⟨uP,fun t h=>by simp [Eb] at h,(fun g S h=>by
 simp only [Eb] at h
 split at h
 ·cases h; exact F8
 ·cases h; exact Cb
 ·cases h; exact Wj
 ·cases h; exact Cc
 ·cases h),fun g F h=>by simp [Eb] at h⟩
theorem GF:dk Tryz.prog 131 uJ:=by
 refine eI PS aP Tryz.func131 (enters_of Tryz.func131 (by kernel_rfl) rfl) ?_ ?_ ?_
 ·intro i b hb;obtain ⟨neg,i⟩:=i;cases i with
  | none=>simp [uJ,LV.ae] at hb
  | some i=>simp [uJ,LV.ae] at hb; rw [hb]; rfl
 ·intro i b hb; simp [uJ] at hb
 intro ⟨neg,i⟩ hp;have fin:∀ N:Nat,(!(nb N).toList == (⟨#[]⟩:ByteArray).toList)=(N != 0):=by
  intro N;rw [pZ];by_cases h:N=0
  ·subst h; simp [pQ]
  ·simp [h,Kf]
 cases i with
 | none =>
  cases neg
  all_goals
   conv=>whnf
   refine ⟨none,[],rfl,trivial,?_⟩;conv=>whnf
   refine ⟨_,rfl,?_⟩;conv=>whnf
   refine ⟨none,[],rfl,trivial,?_⟩;conv=>whnf
   refine ⟨_,rfl,?_⟩;conv=>whnf
   simp only [LV.num,fin];exact ⟨_,rfl,.refl _⟩
 | some i =>
  obtain ⟨n,N,c⟩:=i;have hp:N < 4294967296 ^ n∧n≤274877906944:=hp;have cE:=jD hp.1;cases neg
  all_goals
   conv=>whnf
   refine ⟨some (n,N,c),[0],rfl,hp,?_⟩;conv=>whnf
   refine ⟨ar.aE (fun h=>h) (fun r hr=>rfl),?_⟩
   conv=>whnf
   refine ⟨_,rfl,?_⟩;conv=>whnf
   refine ⟨some (nl N,N,c),[0],rfl,⟨bW N,by omega⟩,?_⟩
   conv=>whnf
   refine ⟨?_,?_⟩
   ·exact ⟨(fun h=>by cases h),rfl,cE,fun _ _=>rfl,fun r hr v hv=>dC (l:=bo N r) rfl v hv⟩
   conv=>whnf
   refine ⟨_,rfl,?_⟩;conv=>whnf
   simp only [LV.num,fin];exact ⟨_,rfl,.refl _⟩
open Go Go.Ae
theorem E3:dk Tryz.prog 136 wA:=by
 refine eI PS aP Tryz.func136 (enters_of Tryz.func136 (by kernel_rfl) rfl) ?_ ?_ ?_
 ·intro i b hb; simp [wA,j9] at hb; rcases hb with rfl | rfl <;> rfl
 ·intro i b hb; simp [wA] at hb
 intro ⟨A,ca,D,cd⟩ hp;have hp:nl A≤137438953472∧nl D≤137438953472:=hp;conv=>whnf
 refine aN (fun h=>?_) (fun h=>?_)
 ·have h:nl A≠nl D:=by
   intro e;have e':((nl A:Nat):Int)=((nl D:Nat):Int):=by rw [e]
   simp [e'] at h
  conv=>whnf
  refine aN (fun J=>?_) (fun J=>?_)
  ·have J:nl A < nl D:=by simpa using J
   conv=>whnf
   have:=KA J;refine ⟨_,rfl,?_⟩;simp only [cL,if_pos this];exact .refl _
  ·have J:nl D < nl A:=by
    have J:¬ nl A < nl D:=by simpa using J
    omega
   conv=>whnf
   have:=KA J;refine ⟨_,rfl,?_⟩;simp only [cL,if_neg (show ¬ A < D by omega),if_pos this]
   exact .refl _
 ·have h:nl D=nl A:=by
   by_cases e:nl A=nl D
   ·exact e.symm
   ·have e':((nl A:Nat):Int)≠((nl D:Nat):Int):=by omega
    simp [e'] at h
  conv=>whnf
  refine .inl ⟨fun mm tz hz=>∃ (i:Nat),bB (some (.slice (some ⟨0,0,none⟩) (nl A) ca)::some (.slice (some ⟨1,0,none⟩) (nl D) cd)::aG 3 (some (.int .i64 (IntKind.i64.wrap ((i:Int) - 1)))::aG 37 [])) tz∧hz=[some (.flat false (nl A) 1 (bo A)),some (.flat false (nl D) 1 (bo D))]∧i=mm∧(i≤nl A∧A / B ^ i=D / B ^ i),.inl ⟨_,nl A,(.aa (.aa (.sk 3 (.aa (.sk 37 .nil rfl)) rfl))),rfl,rfl,?_⟩,?_⟩
  ·refine ⟨Nat.le_refl _,?_⟩;have h1:=bW A;have J:=bW D;rw [h] at J;rw [Nat.div_eq_of_lt h1,Nat.div_eq_of_lt J]
  rintro mm aW _ ⟨i,aC,rfl,rfl,⟨hi,he⟩⟩
  obtain ⟨az,rfl⟩:∃ az:Nat→Value,aW=.slice (some ⟨0,0,none⟩) (nl A) ca::.slice (some ⟨1,0,none⟩) (nl D) cd::zs az 2 3 (.int .i64 (IntKind.i64.wrap ((i:Int) - 1))::zs az 6 37 []):=bI aC;clear aC;conv=>whnf
  refine aN (fun h1=>?_) (fun h1=>?_)
  ·have h1:0 < i:=by
    rcases Nat.eq_zero_or_pos i with h | h
    ·subst h; revert h1; decide
    ·exact h
   have ei:IntKind.i64.wrap ((i:Int) - 1)=((i - 1:Nat):Int):=by rw [ay (by omega) (by omega)]; omega
   have hA:=pN A (i - 1);have hD:=pN D (i - 1);rw [show i - 1+1=i by omega] at hA hD
   rw [← he] at hD;simp only [ei];conv=>whnf
   refine .inl ⟨8,[[],[],[0,1],[0,1,2],[],[],[4,5],[4,5,6],[0,1,2,3,4,5,6,7],[0,1,2,3,4,5,6,7,8]],by kernel_rfl,?_⟩
   conv=>whnf
   refine ⟨⟨by omega,by omega⟩,?_⟩
   try simp (disch:=omega) only [ay,bL,db,dD,cf,dU,dv,dW,c5,dh,dt,dB,dw,dK,toNat_cast,aB,Nat.zero_add,dT,toNat_0,toNat_1,Nat.sub_zero,dZ,ef,eF,eG,dM,dY,dV,eg]
   conv=>whnf
   refine ⟨by show i - 1 < nl A; omega,?_⟩
   conv=>whnf
   refine ⟨⟨by omega,by omega⟩,?_⟩
   try simp (disch:=omega) only [ay,bL,db,dD,cf,dU,dv,dW,c5,dh,dt,dB,dw,dK,toNat_cast,aB,Nat.zero_add,dT,toNat_0,toNat_1,Nat.sub_zero,dZ,ef,eF,eG,dM,dY,dV,eg]
   conv=>whnf
   refine ⟨by show i - 1 < nl D; omega,?_⟩
   conv=>whnf
   refine aN (fun J=>?_) (fun J=>?_)
   ·have J:an A (i - 1) < an D (i - 1):=by simpa using J
    conv=>whnf
    have al:A < D:=by
     rcases Nat.lt_or_ge A D with h | h
     ·exact h
     ·have:=Nat.div_le_div_right (c:=B ^ (i - 1)) h;omega
    refine ⟨_,rfl,?_⟩;simp only [cL,if_pos al];exact .refl _
   ·have J:an D (i - 1)≤an A (i - 1):=by simpa using J
    conv=>whnf
    refine .inl ⟨8,[[],[],[0,1],[0,1,2],[],[],[4,5],[4,5,6],[0,1,2,3,4,5,6,7],[0,1,2,3,4,5,6,7,8]],by kernel_rfl,?_⟩
    conv=>whnf
    refine ⟨⟨by omega,by omega⟩,?_⟩
    try simp (disch:=omega) only [ay,bL,db,dD,cf,dU,dv,dW,c5,dh,dt,dB,dw,dK,toNat_cast,aB,Nat.zero_add,dT,toNat_0,toNat_1,Nat.sub_zero,dZ,ef,eF,eG,dM,dY,dV,eg]
    conv=>whnf
    refine ⟨by show i - 1 < nl A; omega,?_⟩
    conv=>whnf
    refine ⟨⟨by omega,by omega⟩,?_⟩
    try simp (disch:=omega) only [ay,bL,db,dD,cf,dU,dv,dW,c5,dh,dt,dB,dw,dK,toNat_cast,aB,Nat.zero_add,dT,toNat_0,toNat_1,Nat.sub_zero,dZ,ef,eF,eG,dM,dY,dV,eg]
    conv=>whnf
    refine ⟨by show i - 1 < nl D; omega,?_⟩
    conv=>whnf
    refine aN (fun h3=>?_) (fun h3=>?_)
    ·have h3:an D (i - 1) < an A (i - 1):=by simpa using h3
     conv=>whnf
     have al:D < A:=by
      rcases Nat.lt_or_ge D A with h | h
      ·exact h
      ·have:=Nat.div_le_div_right (c:=B ^ (i - 1)) h;omega
     refine ⟨_,rfl,?_⟩;simp only [cL,if_neg (show ¬ A < D by omega),if_pos al]
     exact .refl _
    ·have h3:an A (i - 1)≤an D (i - 1):=by simpa using h3
     conv=>whnf
     refine .inr ⟨[0,1],[0,1,5],?_⟩;conv=>whnf
     intro _;conv=>whnf
     refine ⟨_,?_,i - 1,(.aa (.aa (.sk 3 (.aa (.sk 37 .nil rfl)) rfl))),rfl,rfl,?_⟩
     ·omega
     ·refine ⟨by omega,?_⟩
      rw [hA,hD,show an A (i - 1)=an D (i - 1) by omega]
  ·have h1:i=0:=by
    rcases Nat.eq_zero_or_pos i with h | h
    ·exact h
    ·rw [ay (by omega) (by omega)] at h1
     simp at h1; omega
   subst h1;rw [Nat.pow_zero,Nat.div_one,Nat.div_one] at he;conv=>whnf
   refine ⟨_,rfl,?_⟩;simp only [cL,he,Nat.lt_irrefl,if_false];exact .refl _
def Ec:Env:={ tt:=tt,eqs:=[],Φ:=fun g=>match g with
 | 165=>some (.p kv)
 | 161=>some (.q r8)
 | 167=>some (.p kV)
 | _=>none }
theorem Il:EnvOk Tryz.prog Ec:=⟨uP,fun t h=>by simp [Ec] at h,(fun g S h=>by
 simp only [Ec] at h
 split at h
 ·cases h; exact F8
 ·cases h; exact Cb
 ·cases h; exact Nb
 ·cases h),fun g F h=>by simp [Ec] at h⟩
theorem Wk:dk Tryz.prog 143 Cs:=by
 refine eI Il aP Tryz.func143 (enters_of Tryz.func143 (by kernel_rfl) rfl) ?_ ?_ ?_
 ·intro i b hb; simp [Cs,j9] at hb; rcases hb with rfl | rfl <;> rfl
 ·intro i b hb; simp [Cs] at hb; rw [← hb]; rfl
 intro ⟨A,ca,D,cd⟩ hp;have hp:(nl A≤137438953472∧nl D≤137438953472)∧D≤A:=hp;have cE:=kR hp.2;conv=>whnf
 refine ⟨⟨by omega,by omega,by show ((nl A:Nat):Int)*((4:Nat):Int)≤_; omega⟩,?_⟩
 simp only [toNat_cast,tD];conv=>whnf
 refine .inl ⟨fun mm tz hz=>∃ (i:Nat) (Y:Nat) (b:Nat),bB (some (.slice (some ⟨0,0,none⟩) (nl A) ca)::some (.slice (some ⟨1,0,none⟩) (nl D) cd)::aG 3 (some (.slice (some ⟨2,0,none⟩) (nl A) (nl A))::some (.int .u32 b)::aG 6 (some (.slice (some ⟨0,0,none⟩) (nl A) ca)::some (.int .i64 (nl A))::some (.int .i64 i)::aG 25 []))) tz∧hz=[some (.flat false (nl A) 1 (bo A)),some (.flat false (nl D) 1 (bo D)),some (.flat true (nl A) 1 (bo Y))]∧nl A - i=mm∧(i≤nl A∧b≤1∧Y < B ^ i∧A % B ^ i+b*B ^ i=Y+D % B ^ i),.inl ⟨_,0,0,0,(.aa (.aa (.sk 3 (.aa (.aa (.sk 6 (.aa (.aa (.aa (.sk 25 .nil rfl)))) rfl))) rfl))),rfl,rfl,?_⟩,?_⟩
 ·simp [Nat.mod_one]
 rintro mm aW _ ⟨i,Y,b,aC,rfl,rfl,⟨hi,hb,hY,he⟩⟩
 obtain ⟨az,rfl⟩:∃ az:Nat→Value,aW=.slice (some ⟨0,0,none⟩) (nl A) ca::.slice (some ⟨1,0,none⟩) (nl D) cd::zs az 2 3 (.slice (some ⟨2,0,none⟩) (nl A) (nl A)::.int .u32 b::zs az 7 6 (.slice (some ⟨0,0,none⟩) (nl A) ca::.int .i64 (nl A)::.int .i64 i::zs az 16 25 [])):=bI aC;clear aC;conv=>whnf
 refine aN (fun h1=>?_) (fun h1=>?_)
 ·have h1:i < nl A:=by simpa using h1
  conv=>whnf
  refine ⟨⟨by omega,by omega⟩,?_⟩
  try simp (disch:=omega) only [ay,bL,db,dD,cf,dU,dv,dW,c5,dh,dt,dB,dw,dK,toNat_cast,aB,Nat.zero_add,dT,toNat_0,toNat_1,Nat.sub_zero,dZ,ef,eF,eG,dM,dY,dV,eg]
  conv=>whnf
  refine ⟨by show i < nl A; omega,?_⟩
  conv=>whnf
  have tb:=cI A i;have DS:=cI D i;have c7:∃ d,d=(an A i+2*4294967296 - an D i - b) % 4294967296:=⟨_,rfl⟩;obtain ⟨d,hd⟩:=c7;have dJ:d < B:=by rw [hd]; exact Nat.mod_lt _ (by decide)
  have ax:=SR (b':=if an A i < an D i+b then 1 else 0) hY he (by
   have e:B=4294967296:=rfl
   split <;> omega) dJ
  refine aN (fun J=>?_) (fun J=>?_)
  ·have J:i < nl D:=by simpa using J
   conv=>whnf
   refine ⟨⟨by omega,by omega⟩,?_⟩
   try simp (disch:=omega) only [ay,bL,db,dD,cf,dU,dv,dW,c5,dh,dt,dB,dw,dK,toNat_cast,aB,Nat.zero_add,dT,toNat_0,toNat_1,Nat.sub_zero,dZ,ef,eF,eG,dM,dY,dV,eg]
   conv=>whnf
   refine ⟨by show i < nl D; omega,?_⟩
   conv=>whnf
   refine ⟨(an A i,an D i,b),rfl,⟨tb,DS,hb⟩,?_⟩;simp only [kV,← hd];conv=>whnf
   refine ⟨⟨by omega,by omega⟩,?_⟩
   try simp (disch:=omega) only [ay,bL,db,dD,cf,dU,dv,dW,c5,dh,dt,dB,dw,dK,toNat_cast,aB,Nat.zero_add,dT,toNat_0,toNat_1,Nat.sub_zero,dZ,ef,eF,eG,dM,dY,dV,eg]
   conv=>whnf
   refine ⟨by show i < nl A; omega,?_⟩
   conv=>whnf
   try simp (disch:=omega) only [ay,bL,db,dD,cf,dU,dv,dW,c5,dh,dt,dB,dw,dK,toNat_cast,aB,Nat.zero_add,dT,toNat_0,toNat_1,Nat.sub_zero,dZ,ef,eF,eG,dM,dY,dV,eg]
   rw [fw dJ];refine .inl ⟨_,?_,i+1,cF Y i d,if an A i < an D i+b then 1 else 0,(.aa (.aa (.sk 3 (.aa (.aa (.sk 6 (.aa (.aa (.aa (.sk 25 .nil rfl)))) rfl))) rfl))),rfl,rfl,?_⟩
   ·omega
   ·exact ⟨by omega,by split <;> omega,ax.1,ax.2⟩
  ·have J:nl D≤i:=by
    have J:¬ i < nl D:=by simpa using J
    omega
   have h0:=tU (bW D) J;rw [h0] at hd ax;rw [Nat.zero_add] at ax;conv=>whnf
   refine ⟨(an A i,0,b),rfl,⟨tb,(by show 0 < 4294967296; decide),hb⟩,?_⟩
   simp only [kV,← hd];conv=>whnf
   refine ⟨⟨by omega,by omega⟩,?_⟩
   try simp (disch:=omega) only [ay,bL,db,dD,cf,dU,dv,dW,c5,dh,dt,dB,dw,dK,toNat_cast,aB,Nat.zero_add,dT,toNat_0,toNat_1,Nat.sub_zero,dZ,ef,eF,eG,dM,dY,dV,eg]
   conv=>whnf
   refine ⟨by show i < nl A; omega,?_⟩
   conv=>whnf
   try simp (disch:=omega) only [ay,bL,db,dD,cf,dU,dv,dW,c5,dh,dt,dB,dw,dK,toNat_cast,aB,Nat.zero_add,dT,toNat_0,toNat_1,Nat.sub_zero,dZ,ef,eF,eG,dM,dY,dV,eg]
   rw [fw dJ];refine .inl ⟨_,?_,i+1,cF Y i d,if an A i < b then 1 else 0,(.aa (.aa (.sk 3 (.aa (.aa (.sk 6 (.aa (.aa (.aa (.sk 25 .nil rfl)))) rfl))) rfl))),rfl,rfl,?_⟩
   ·omega
   ·exact ⟨by omega,by split <;> omega,ax.1,ax.2⟩
 ·have h1:i=nl A:=by
   have h1:¬ i < nl A:=by simpa using h1
   omega
  subst h1;have DT:Y=A - D∧b=0:=by
   rw [Nat.mod_eq_of_lt (bW A),Nat.mod_eq_of_lt (Nat.lt_of_le_of_lt hp.2 (bW A))] at he;rcases Nat.eq_zero_or_pos b with h | h
   ·subst h; omega
   ·have:b=1:=by omega
    subst this;omega
  conv=>whnf
  refine ⟨some (nl A,Y,nl A),[2],rfl,⟨hY,by omega⟩,?_⟩
  conv=>whnf
  refine ⟨ar.aE (fun h=>by cases h) (fun r hr=>rfl),?_⟩
  conv=>whnf
  refine ⟨_,rfl,?_⟩;conv=>whnf
  refine ⟨2,?_⟩;conv=>whnf
  rw [DT.1];have hle:=kR (show A - D≤A by omega)
  refine ⟨⟨rfl,⟨(fun h=>by cases h),rfl,hle,fun _ _=>rfl,fun r hr v hv=>dC (l:=bo (A - D) r) rfl v hv⟩⟩,_,rfl,?_⟩
  exact .cap _ _ _ rfl
open Go Go.Ae
theorem Wl:dk Tryz.prog 139 Ct:=by
 refine eI Il aP Tryz.func139 (enters_of Tryz.func139 (by kernel_rfl) rfl) ?_ ?_ ?_
 ·intro i b hb; simp [Ct,j9] at hb; rcases hb with rfl | rfl <;> rfl
 ·intro i b hb; simp [Ct] at hb; rw [← hb]; rfl
 intro ⟨A,ca,D,cd⟩ hp;have hp:nl A≤137438953472∧nl D≤137438953472:=hp;conv=>whnf
 have e1:IntKind.i64.wrap (((nl A:Nat):Int)+((nl D:Nat):Int))=((nl A+nl D:Nat):Int):=by rw [ay (by omega) (by omega)]; omega
 simp only [e1];refine ⟨⟨by omega,by omega,by show ((nl A+nl D:Nat):Int)*((4:Nat):Int)≤_; omega⟩,?_⟩
 simp only [toNat_cast,tD];conv=>whnf
 refine .inl ⟨fun mm tz hz=>∃ (i:Nat) (Y:Nat),bB (some (.slice (some ⟨0,0,none⟩) (nl A) ca)::some (.slice (some ⟨1,0,none⟩) (nl D) cd)::aG 3 (some (.slice (some ⟨2,0,none⟩) (nl A+nl D) (nl A+nl D))::aG 11 (some (.slice (some ⟨0,0,none⟩) (nl A) ca)::some (.int .i64 (nl A))::some (.int .i64 i)::aG 47 []))) tz∧hz=[some (.flat false (nl A) 1 (bo A)),some (.flat false (nl D) 1 (bo D)),some (.flat true (nl A+nl D) 1 (bo Y))]∧nl A - i=mm∧(i≤nl A∧Y=A % B ^ i*D),.inl ⟨_,0,0,(.aa (.aa (.sk 3 (.aa (.sk 11 (.aa (.aa (.aa (.sk 47 .nil rfl)))) rfl)) rfl))),rfl,rfl,?_⟩,?_⟩
 ·exact ⟨Nat.zero_le _,by simp [Nat.mod_one]⟩
 rintro mm aW _ ⟨i,Y,aC,rfl,rfl,⟨hi,hY⟩⟩
 obtain ⟨az,rfl⟩:∃ az:Nat→Value,aW=.slice (some ⟨0,0,none⟩) (nl A) ca::.slice (some ⟨1,0,none⟩) (nl D) cd::zs az 2 3 (.slice (some ⟨2,0,none⟩) (nl A+nl D) (nl A+nl D)::zs az 6 11 (.slice (some ⟨0,0,none⟩) (nl A) ca::.int .i64 (nl A)::.int .i64 i::zs az 20 47 [])):=bI aC;clear aC;conv=>whnf
 refine aN (fun h1=>?_) (fun h1=>?_)
 ·have h1:i < nl A:=by simpa using h1
  have ad8:Y < B ^ (i+nl D):=by
   rw [hY,Nat.pow_add];exact Nat.mul_lt_mul_of_lt_of_le (Nat.mod_lt _ (eE i)) (Nat.le_of_lt (bW D)) (eE _)
  conv=>whnf
  refine ⟨⟨by omega,by omega⟩,?_⟩
  try simp (disch:=omega) only [ay,bL,db,dD,cf,dU,dv,dW,c5,dh,dt,dB,dw,dK,toNat_cast,aB,Nat.zero_add,dT,toNat_0,toNat_1,Nat.sub_zero,dZ,ef,eF,eG,dM,dY,dV,eg]
  conv=>whnf
  refine ⟨by show i < nl A; omega,?_⟩
  conv=>whnf
  refine .inl ⟨fun mm tz hz=>∃ (k:Nat) (Z:Nat) (c:Nat),bB (some (.slice (some ⟨0,0,none⟩) (nl A) ca)::some (.slice (some ⟨1,0,none⟩) (nl D) cd)::aG 3 (some (.slice (some ⟨2,0,none⟩) (nl A+nl D) (nl A+nl D))::some (.int .i64 i)::some (.int .u32 (an A i))::some (.int .u64 c)::aG 8 (some (.slice (some ⟨0,0,none⟩) (nl A) ca)::some (.int .i64 (nl A))::some (.int .i64 i)::aG 4 (some (.slice (some ⟨1,0,none⟩) (nl D) cd)::some (.int .i64 (nl D))::some (.int .i64 k)::aG 40 [])))) tz∧hz=[some (.flat false (nl A) 1 (bo A)),some (.flat false (nl D) 1 (bo D)),some (.flat true (nl A+nl D) 1 (bo Z))]∧nl D - k=mm∧(k≤nl D∧c < B∧Z < B ^ (i+nl D)∧Z+c*B ^ (i+k)=Y+an A i*(D % B ^ k)*B ^ i),.inl ⟨_,0,Y,0,(.aa (.aa (.sk 3 (.aa (.aa (.aa (.aa (.sk 8 (.aa (.aa (.aa (.sk 4 (.aa (.aa (.aa (.sk 40 .nil rfl)))) rfl)))) rfl))))) rfl))),rfl,rfl,?_⟩,?_⟩
  ·exact ⟨Nat.zero_le _,by decide,ad8,by simp [Nat.mod_one]⟩
  rintro mm aW _ ⟨k,Z,c,aC,rfl,rfl,⟨hk,hc,hZ,he⟩⟩
  obtain ⟨az,rfl⟩:∃ az:Nat→Value,aW=.slice (some ⟨0,0,none⟩) (nl A) ca::.slice (some ⟨1,0,none⟩) (nl D) cd::zs az 2 3 (.slice (some ⟨2,0,none⟩) (nl A+nl D) (nl A+nl D)::.int .i64 i::.int .u32 (an A i)::.int .u64 c::zs az 9 8 (.slice (some ⟨0,0,none⟩) (nl A) ca::.int .i64 (nl A)::.int .i64 i::zs az 20 4 (.slice (some ⟨1,0,none⟩) (nl D) cd::.int .i64 (nl D)::.int .i64 k::zs az 27 40 []))):=bI aC;clear aC;have tb:=cI A i;have DS:=cI D k;have QS:=cI Z (i+k);conv=>whnf
  refine aN (fun J=>?_) (fun J=>?_)
  ·have J:k < nl D:=by simpa using J
   obtain ⟨t,ht⟩:∃ t,t=c+(an A i*an D k+an Z (i+k)):=⟨_,rfl⟩;have ax:=SS he ht;have ad9:=KC hc tb DS QS ht;conv=>whnf
   refine ⟨⟨by omega,by omega⟩,?_⟩
   try simp (disch:=omega) only [ay,bL,db,dD,cf,dU,dv,dW,c5,dh,dt,dB,dw,dK,toNat_cast,aB,Nat.zero_add,dT,toNat_0,toNat_1,Nat.sub_zero,dZ,ef,eF,eG,dM,dY,dV,eg]
   conv=>whnf
   refine ⟨by show k < nl D; omega,?_⟩
   conv=>whnf
   have e2:IntKind.i64.wrap (((i:Nat):Int)+((k:Nat):Int))=((i+k:Nat):Int):=by rw [ay (by omega) (by omega)]; omega
   have hv:=Uh hc tb DS QS ht;have gY:=Nat.mod_lt t (show 0 < B by decide)
   simp only [e2,toNat_cast,aB,Nat.zero_add];refine ⟨⟨by omega,by omega⟩,?_⟩
   conv=>whnf
   refine ⟨by show i+k < nl A+nl D; omega,?_⟩
   conv=>whnf
   simp only [hv,e2,eJ];refine ⟨⟨by omega,by omega⟩,?_⟩
   simp only [toNat_cast,aB,Nat.zero_add];conv=>whnf
   refine ⟨by show i+k < nl A+nl D; omega,?_⟩
   conv=>whnf
   simp only [cf,jE];rw [fw gY];have e3:IntKind.i64.wrap (((k:Nat):Int)+1)=((k+1:Nat):Int):=by rw [ay (by omega) (by omega)]; rfl
   simp only [e3];refine .inl ⟨_,?_,k+1,cF Z (i+k) (t % B),t / B,(.aa (.aa (.sk 3 (.aa (.aa (.aa (.aa (.sk 8 (.aa (.aa (.aa (.sk 4 (.aa (.aa (.aa (.sk 40 .nil rfl)))) rfl)))) rfl))))) rfl))),rfl,rfl,?_⟩
   ·omega
   ·exact ⟨by omega,ad9.1,lS hZ (by omega) gY,ax⟩
  ·have J:k=nl D:=by
    have J:¬ k < nl D:=by simpa using J
    omega
   subst J;have aZ:=Ug hY (bW D) hZ he;have e2:IntKind.i64.wrap (((i:Nat):Int)+((nl D:Nat):Int))=((i+nl D:Nat):Int):=by rw [ay (by omega) (by omega)]; omega
   conv=>whnf
   simp only [e2,eJ,Nat.mod_eq_of_lt hc];refine ⟨⟨by omega,by omega⟩,?_⟩
   simp only [toNat_cast,aB,Nat.zero_add];conv=>whnf
   refine ⟨by show i+nl D < nl A+nl D; omega,?_⟩
   conv=>whnf
   rw [fw hc]
   try simp (disch:=omega) only [ay,bL,db,dD,cf,dU,dv,dW,c5,dh,dt,dB,dw,dK,toNat_cast,aB,Nat.zero_add,dT,toNat_0,toNat_1,Nat.sub_zero,dZ,ef,eF,eG,dM,dY,dV,eg]
   skip
   refine .inl ⟨_,?_,i+1,cF Z (i+nl D) c,(.aa (.aa (.sk 3 (.aa (.sk 11 (.aa (.aa (.aa (.sk 47 .nil rfl)))) rfl)) rfl))),rfl,rfl,?_⟩
   ·omega
   ·exact ⟨by omega,aZ⟩
 ·have h1:i=nl A:=by
   have h1:¬ i < nl A:=by simpa using h1
   omega
  subst h1;rw [Nat.mod_eq_of_lt (bW A)] at hY;have al:Y < B ^ (nl A+nl D):=by
   rw [hY,Nat.pow_add];exact Nat.mul_lt_mul_of_lt_of_le (bW A) (Nat.le_of_lt (bW D)) (eE _)
  conv=>whnf
  refine ⟨some (nl A+nl D,Y,nl A+nl D),[2],rfl,⟨al,by omega⟩,?_⟩
  conv=>whnf
  refine ⟨ar.aE (fun h=>by cases h) (fun r hr=>rfl),?_⟩
  conv=>whnf
  refine ⟨_,rfl,?_⟩;conv=>whnf
  refine ⟨2,?_⟩;conv=>whnf
  have hle:=jD al;subst hY;refine ⟨⟨rfl,⟨(fun h=>by cases h),rfl,hle,fun _ _=>rfl,fun r hr v hv=>dC (l:=bo (A*D) r) rfl v hv⟩⟩,_,rfl,?_⟩
  exact .cap _ _ _ rfl
open Go Go.Ae
theorem YY:dk Tryz.prog 142 CM:=by
 refine eI Il aP Tryz.func142 (enters_of Tryz.func142 (by kernel_rfl) rfl) ?_ ?_ ?_
 ·intro i b hb; simp [CM,j9] at hb; rcases hb with rfl | rfl <;> rfl
 ·intro i b hb; simp [CM] at hb; rw [← hb]; rfl
 intro ⟨A,ca,D,cd⟩ hp;have hp:nl A≤137438953472∧nl D≤137438953472:=hp;conv=>whnf
 refine aN (fun h0=>?_) (fun h0=>?_)
 ·have h0:(nl A < nl D):=by simpa using h0
  have qX:nl A≤nl D:=by omega
  have eS:A+D=(D+A):=by omega
  conv=>whnf
  have e1:IntKind.i64.wrap (((nl D:Nat):Int)+1)=((nl D+1:Nat):Int):=by rw [ay (by omega) (by omega)]; rfl
  simp only [e1];have fJ:decide (nl D+1=aO)=false:=decide_eq_false (by unfold aO; omega)
  refine ⟨⟨by omega,by omega,by show ((nl D+1:Nat):Int)*((4:Nat):Int)≤_; omega⟩,?_⟩
  simp only [toNat_cast,toNat_0];conv=>whnf
  refine .inl ⟨fun mm tz hz=>∃ (i:Nat) (Z:Nat) (c:Nat) (g:Nat→List Value),bB (some (.slice (some ⟨1,0,none⟩) (nl D) cd)::some (.slice (some ⟨0,0,none⟩) (nl A) ca)::aG 3 (some (.slice (some ⟨2,0,none⟩) i (nl D+1))::some (.int .u64 c)::aG 13 (some (.slice (some ⟨1,0,none⟩) (nl D) cd)::some (.int .i64 (nl D))::some (.int .i64 i)::aG 33 []))) tz∧hz=[some (.flat false (nl A) 1 (bo A)),some (.flat false (nl D) 1 (bo D)),some (.flat true i 1 g)]∧nl D - i=mm∧(i≤nl D∧c≤1∧Z < B ^ i∧Z+c*B ^ i=D % B ^ i+A % B ^ i∧∀ r,r < i→g r=bo Z r),.inl ⟨_,0,0,0,_,(.aa (.aa (.sk 3 (.aa (.aa (.sk 13 (.aa (.aa (.aa (.sk 33 .nil rfl)))) rfl))) rfl))),rfl,rfl,?_⟩,?_⟩
  ·exact ⟨Nat.zero_le _,by decide,by simp,by simp [Nat.mod_one],fun r hr=>absurd hr (by omega)⟩
  rintro mm aW _ ⟨i,Z,c,g,aC,rfl,rfl,⟨hi,hc,hZ,he,hg⟩⟩
  obtain ⟨az,rfl⟩:∃ az:Nat→Value,aW=.slice (some ⟨1,0,none⟩) (nl D) cd::.slice (some ⟨0,0,none⟩) (nl A) ca::zs az 2 3 (.slice (some ⟨2,0,none⟩) i (nl D+1)::.int .u64 c::zs az 7 13 (.slice (some ⟨1,0,none⟩) (nl D) cd::.int .i64 (nl D)::.int .i64 i::zs az 23 33 [])):=bI aC;clear aC;conv=>whnf
  refine aN (fun h1=>?_) (fun h1=>?_)
  ·have h1:i < nl D:=by simpa using h1
   conv=>whnf
   refine ⟨⟨by omega,by omega⟩,?_⟩
   try simp (disch:=omega) only [ay,bL,db,dD,cf,dU,dv,dW,c5,dh,dt,dB,dw,dK,toNat_cast,aB,Nat.zero_add,dT,toNat_0,toNat_1,Nat.sub_zero,dZ,ef,eF,eG,dM,dY,dV,eg]
   conv=>whnf
   refine ⟨by show i < nl D; omega,?_⟩
   conv=>whnf
   have hlX:an D i < 4294967296:=cI D i;have hlY:an A i < 4294967296:=cI A i;obtain ⟨t,ht⟩:∃ t,t=c+an D i+an A i:=⟨_,rfl⟩;have ax:=LW he ht;have gY:t % B < B:=Nat.mod_lt t (show 0 < B by decide)
   have fE:t / B≤1:=by
    have e:B=4294967296:=rfl;rw [e]; omega
   have Jt:=BC (a:=c) (b:=an D i) (by omega) (by omega)
   have Au:=BC (a:=c+an D i) (b:=an A i) (by omega) (by omega)
   rw [← ht] at Au;have e3:IntKind.i64.wrap (((i:Nat):Int)+1)=((i+1:Nat):Int):=by rw [ay (by omega) (by omega)]; rfl
   have aZ:=BX hZ gY hg;simp only [Jt];refine aN (fun J=>?_) (fun J=>?_)
   ·have J:i < nl A:=by simpa using J
    conv=>whnf
    refine ⟨⟨by omega,by omega⟩,?_⟩
    try simp (disch:=omega) only [ay,bL,db,dD,cf,dU,dv,dW,c5,dh,dt,dB,dw,dK,toNat_cast,aB,Nat.zero_add,dT,toNat_0,toNat_1,Nat.sub_zero,dZ,ef,eF,eG,dM,dY,dV,eg]
    conv=>whnf
    refine ⟨by show i < nl A; omega,?_⟩
    conv=>whnf
    simp only [Au,eJ];rw [fJ];conv=>whnf
    refine mP ?_ ?_
    ·rw [Nat.ble_eq]; show i+1≤nl D+1; omega
    refine ⟨by show 0+i=i; omega,?_⟩
    conv=>whnf
    simp only [cf,jE,e3];refine .inr ⟨[0,1,2],[0,1,5,6,20,21,22],?_⟩;conv=>whnf
    intro _;conv=>whnf
    refine ⟨_,?_,i+1,Z+t % B*B ^ i,t / B,_,(.aa (.aa (.sk 3 (.aa (.aa (.sk 13 (.aa (.aa (.aa (.sk 33 .nil rfl)))) rfl))) rfl))),rfl,rfl,?_⟩
    ·omega
    ·exact ⟨by omega,fE,v5 hZ gY,ax,aZ⟩
   ·have J:nl A≤i:=by
     have J:¬ i < nl A:=by simpa using J
     omega
    have h0:=tU (bW A) J;have e4:c+an D i=t:=by omega
    conv=>whnf
    simp only [e4,eJ];rw [fJ];conv=>whnf
    refine mP ?_ ?_
    ·rw [Nat.ble_eq]; show i+1≤nl D+1; omega
    refine ⟨by show 0+i=i; omega,?_⟩
    conv=>whnf
    simp only [cf,jE,e3];refine .inr ⟨[0,1,2],[0,1,5,6,20,21,22],?_⟩;conv=>whnf
    intro _;conv=>whnf
    refine ⟨_,?_,i+1,Z+t % B*B ^ i,t / B,_,(.aa (.aa (.sk 3 (.aa (.aa (.sk 13 (.aa (.aa (.aa (.sk 33 .nil rfl)))) rfl))) rfl))),rfl,rfl,?_⟩
    ·omega
    ·exact ⟨by omega,fE,v5 hZ gY,ax,aZ⟩
  ·have h1:i=nl D:=by
    have h1:¬ i < nl D:=by simpa using h1
    omega
   subst h1;rw [Nat.mod_eq_of_lt (bW D),Nat.mod_eq_of_lt (Nat.lt_of_lt_of_le (bW A) (Nat.pow_le_pow_right (by decide) qX))] at he
   have vz:c < B:=by have e:B=4294967296:=rfl; omega
   have aZ:=BX hZ vz hg;have al:=v5 hZ vz;rw [he] at al aZ;conv=>whnf
   simp only [eJ,Nat.mod_eq_of_lt vz];rw [fJ];conv=>whnf
   refine mP ?_ ?_
   ·rw [Nat.ble_eq]; show nl D+1≤nl D+1; omega
   refine ⟨by show 0+nl D=nl D; omega,?_⟩
   conv=>whnf
   refine ⟨some (nl D+1,D+A,nl D+1),[2],rfl,⟨al,by omega⟩,?_⟩
   conv=>whnf
   refine ⟨⟨(fun h=>by cases h),rfl,Nat.le_refl _,fun r hr=>(aZ r hr).symm,fun r hr v hv=>dC (l:=bo (D+A) r) rfl v hv⟩,?_⟩
   conv=>whnf
   refine ⟨_,rfl,?_⟩;conv=>whnf
   refine ⟨2,?_⟩;conv=>whnf
   have hle:=jD al;show (_∧ar (dN (A+D)) _)∧∃ v',cR _ 3 (kI 2 (A+D))=some v'∧_
   rw [eS];refine ⟨⟨rfl,⟨(fun h=>by cases h),rfl,hle,fun r hr=>(aZ r (Nat.lt_of_lt_of_le hr hle)).symm,fun r hr v hv=>dC (l:=bo (D+A) r) rfl v hv⟩⟩,_,rfl,?_⟩
   exact .cap _ _ _ rfl
 ·have h0:(¬ nl A < nl D):=by simpa using h0
  have qX:nl D≤nl A:=by omega
  have eS:A+D=(A+D):=by omega
  conv=>whnf
  have e1:IntKind.i64.wrap (((nl A:Nat):Int)+1)=((nl A+1:Nat):Int):=by rw [ay (by omega) (by omega)]; rfl
  simp only [e1];have fJ:decide (nl A+1=aO)=false:=decide_eq_false (by unfold aO; omega)
  refine ⟨⟨by omega,by omega,by show ((nl A+1:Nat):Int)*((4:Nat):Int)≤_; omega⟩,?_⟩
  simp only [toNat_cast,toNat_0];conv=>whnf
  refine .inl ⟨fun mm tz hz=>∃ (i:Nat) (Z:Nat) (c:Nat) (g:Nat→List Value),bB (some (.slice (some ⟨0,0,none⟩) (nl A) ca)::some (.slice (some ⟨1,0,none⟩) (nl D) cd)::aG 3 (some (.slice (some ⟨2,0,none⟩) i (nl A+1))::some (.int .u64 c)::aG 13 (some (.slice (some ⟨0,0,none⟩) (nl A) ca)::some (.int .i64 (nl A))::some (.int .i64 i)::aG 33 []))) tz∧hz=[some (.flat false (nl A) 1 (bo A)),some (.flat false (nl D) 1 (bo D)),some (.flat true i 1 g)]∧nl A - i=mm∧(i≤nl A∧c≤1∧Z < B ^ i∧Z+c*B ^ i=A % B ^ i+D % B ^ i∧∀ r,r < i→g r=bo Z r),.inl ⟨_,0,0,0,_,(.aa (.aa (.sk 3 (.aa (.aa (.sk 13 (.aa (.aa (.aa (.sk 33 .nil rfl)))) rfl))) rfl))),rfl,rfl,?_⟩,?_⟩
  ·exact ⟨Nat.zero_le _,by decide,by simp,by simp [Nat.mod_one],fun r hr=>absurd hr (by omega)⟩
  rintro mm aW _ ⟨i,Z,c,g,aC,rfl,rfl,⟨hi,hc,hZ,he,hg⟩⟩
  obtain ⟨az,rfl⟩:∃ az:Nat→Value,aW=.slice (some ⟨0,0,none⟩) (nl A) ca::.slice (some ⟨1,0,none⟩) (nl D) cd::zs az 2 3 (.slice (some ⟨2,0,none⟩) i (nl A+1)::.int .u64 c::zs az 7 13 (.slice (some ⟨0,0,none⟩) (nl A) ca::.int .i64 (nl A)::.int .i64 i::zs az 23 33 [])):=bI aC;clear aC;conv=>whnf
  refine aN (fun h1=>?_) (fun h1=>?_)
  ·have h1:i < nl A:=by simpa using h1
   conv=>whnf
   refine ⟨⟨by omega,by omega⟩,?_⟩
   try simp (disch:=omega) only [ay,bL,db,dD,cf,dU,dv,dW,c5,dh,dt,dB,dw,dK,toNat_cast,aB,Nat.zero_add,dT,toNat_0,toNat_1,Nat.sub_zero,dZ,ef,eF,eG,dM,dY,dV,eg]
   conv=>whnf
   refine ⟨by show i < nl A; omega,?_⟩
   conv=>whnf
   have hlX:an A i < 4294967296:=cI A i;have hlY:an D i < 4294967296:=cI D i;obtain ⟨t,ht⟩:∃ t,t=c+an A i+an D i:=⟨_,rfl⟩;have ax:=LW he ht;have gY:t % B < B:=Nat.mod_lt t (show 0 < B by decide)
   have fE:t / B≤1:=by
    have e:B=4294967296:=rfl;rw [e]; omega
   have Jt:=BC (a:=c) (b:=an A i) (by omega) (by omega)
   have Au:=BC (a:=c+an A i) (b:=an D i) (by omega) (by omega)
   rw [← ht] at Au;have e3:IntKind.i64.wrap (((i:Nat):Int)+1)=((i+1:Nat):Int):=by rw [ay (by omega) (by omega)]; rfl
   have aZ:=BX hZ gY hg;simp only [Jt];refine aN (fun J=>?_) (fun J=>?_)
   ·have J:i < nl D:=by simpa using J
    conv=>whnf
    refine ⟨⟨by omega,by omega⟩,?_⟩
    try simp (disch:=omega) only [ay,bL,db,dD,cf,dU,dv,dW,c5,dh,dt,dB,dw,dK,toNat_cast,aB,Nat.zero_add,dT,toNat_0,toNat_1,Nat.sub_zero,dZ,ef,eF,eG,dM,dY,dV,eg]
    conv=>whnf
    refine ⟨by show i < nl D; omega,?_⟩
    conv=>whnf
    simp only [Au,eJ];rw [fJ];conv=>whnf
    refine mP ?_ ?_
    ·rw [Nat.ble_eq]; show i+1≤nl A+1; omega
    refine ⟨by show 0+i=i; omega,?_⟩
    conv=>whnf
    simp only [cf,jE,e3];refine .inr ⟨[0,1,2],[0,1,5,6,20,21,22],?_⟩;conv=>whnf
    intro _;conv=>whnf
    refine ⟨_,?_,i+1,Z+t % B*B ^ i,t / B,_,(.aa (.aa (.sk 3 (.aa (.aa (.sk 13 (.aa (.aa (.aa (.sk 33 .nil rfl)))) rfl))) rfl))),rfl,rfl,?_⟩
    ·omega
    ·exact ⟨by omega,fE,v5 hZ gY,ax,aZ⟩
   ·have J:nl D≤i:=by
     have J:¬ i < nl D:=by simpa using J
     omega
    have h0:=tU (bW D) J;have e4:c+an A i=t:=by omega
    conv=>whnf
    simp only [e4,eJ];rw [fJ];conv=>whnf
    refine mP ?_ ?_
    ·rw [Nat.ble_eq]; show i+1≤nl A+1; omega
    refine ⟨by show 0+i=i; omega,?_⟩
    conv=>whnf
    simp only [cf,jE,e3];refine .inr ⟨[0,1,2],[0,1,5,6,20,21,22],?_⟩;conv=>whnf
    intro _;conv=>whnf
    refine ⟨_,?_,i+1,Z+t % B*B ^ i,t / B,_,(.aa (.aa (.sk 3 (.aa (.aa (.sk 13 (.aa (.aa (.aa (.sk 33 .nil rfl)))) rfl))) rfl))),rfl,rfl,?_⟩
    ·omega
    ·exact ⟨by omega,fE,v5 hZ gY,ax,aZ⟩
  ·have h1:i=nl A:=by
    have h1:¬ i < nl A:=by simpa using h1
    omega
   subst h1;rw [Nat.mod_eq_of_lt (bW A),Nat.mod_eq_of_lt (Nat.lt_of_lt_of_le (bW D) (Nat.pow_le_pow_right (by decide) qX))] at he
   have vz:c < B:=by have e:B=4294967296:=rfl; omega
   have aZ:=BX hZ vz hg;have al:=v5 hZ vz;rw [he] at al aZ;conv=>whnf
   simp only [eJ,Nat.mod_eq_of_lt vz];rw [fJ];conv=>whnf
   refine mP ?_ ?_
   ·rw [Nat.ble_eq]; show nl A+1≤nl A+1; omega
   refine ⟨by show 0+nl A=nl A; omega,?_⟩
   conv=>whnf
   refine ⟨some (nl A+1,A+D,nl A+1),[2],rfl,⟨al,by omega⟩,?_⟩
   conv=>whnf
   refine ⟨⟨(fun h=>by cases h),rfl,Nat.le_refl _,fun r hr=>(aZ r hr).symm,fun r hr v hv=>dC (l:=bo (A+D) r) rfl v hv⟩,?_⟩
   conv=>whnf
   refine ⟨_,rfl,?_⟩;conv=>whnf
   refine ⟨2,?_⟩;conv=>whnf
   have hle:=jD al;show (_∧ar (dN (A+D)) _)∧∃ v',cR _ 3 (kI 2 (A+D))=some v'∧_
   rw [eS];refine ⟨⟨rfl,⟨(fun h=>by cases h),rfl,hle,fun r hr=>(aZ r (Nat.lt_of_lt_of_le hr hle)).symm,fun r hr v hv=>dC (l:=bo (A+D) r) rfl v hv⟩⟩,_,rfl,?_⟩
   exact .cap _ _ _ rfl
open Go Go.Ae
def Ef:Env:=En [(161,.q r8),(195,.p Cr)]
theorem Im:EnvOk Tryz.prog Ef:=bH ⟨Cb,Wh,trivial⟩ trivial
theorem Wm:dk Tryz.prog 183 Cu:=by
 refine eI Im aP Tryz.func183 (enters_of Tryz.func183 (by kernel_rfl) rfl) ?_ ?_ ?_
 ·intro i b hb; simp [Cu,dN] at hb; rcases hb with rfl | rfl <;> rfl
 ·intro i b hb; simp [Cu] at hb; rw [← hb]; rfl
 intro ⟨A,ca,d⟩ hp;have hp:nl A≤137438953472∧0 < d∧d < 4294967296:=hp;conv=>whnf
 refine ⟨⟨by omega,by omega,by show ((nl A:Nat):Int)*((4:Nat):Int)≤_; omega⟩,?_⟩
 simp only [toNat_cast,tD];conv=>whnf
 refine .inl ⟨fun mm tz hz=>∃ (i:Nat) (rem:Nat) (Y:Nat),bB (some (.slice (some ⟨0,0,none⟩) (nl A) ca)::some (.int .u32 d)::aG 4 (some (.slice (some ⟨1,0,none⟩) (nl A) (nl A))::some (.int .u32 rem)::some (.int .i64 (IntKind.i64.wrap ((i:Int) - 1)))::aG 26 [])) tz∧hz=[some (.flat false (nl A) 1 (bo A)),some (.flat true (nl A) 1 (bo Y))]∧i=mm∧(i≤nl A∧rem=A / B ^ i % d∧Y=A / B ^ i / d*B ^ i),.inl ⟨_,nl A,0,0,(.aa (.aa (.sk 4 (.aa (.aa (.aa (.sk 26 .nil rfl)))) rfl))),rfl,rfl,?_⟩,?_⟩
 ·have h:=Nat.div_eq_of_lt (bW A);exact ⟨Nat.le_refl _,by rw [h]; simp,by rw [h]; simp⟩
 rintro mm aW _ ⟨i,rem,Y,aC,rfl,rfl,⟨hi,hr,hY⟩⟩
 obtain ⟨az,rfl⟩:∃ az:Nat→Value,aW=.slice (some ⟨0,0,none⟩) (nl A) ca::.int .u32 d::zs az 2 4 (.slice (some ⟨1,0,none⟩) (nl A) (nl A)::.int .u32 rem::.int .i64 (IntKind.i64.wrap ((i:Int) - 1))::zs az 9 26 []):=bI aC;clear aC;conv=>whnf
 refine aN (fun h1=>?_) (fun h1=>?_)
 ·have h1:0 < i:=by
   rcases Nat.eq_zero_or_pos i with h | h
   ·subst h; revert h1; decide
   ·exact h
  obtain ⟨i,rfl⟩:∃ i',i=i'+1:=⟨i - 1,by omega⟩
  have ei:IntKind.i64.wrap (((i+1:Nat):Int) - 1)=((i:Nat):Int):=by rw [ay (by omega) (by omega)]; omega
  simp only [ei];have hl:=cI A i;have fp:rem < d:=by rw [hr]; exact Nat.mod_lt _ hp.2.1
  obtain ⟨t,ht⟩:∃ t,t=rem*B+an A i:=⟨_,rfl⟩;have jt:=ht;rw [hr] at jt;have ax:=La hp.2.1 jt;have hse:=Ui hp.2.1 jt;have al:=Vt hp.2.1 jt;conv=>whnf
  refine ⟨⟨by omega,by omega⟩,?_⟩
  try simp (disch:=omega) only [ay,bL,db,dD,cf,dU,dv,dW,c5,dh,dt,dB,dw,dK,toNat_cast,aB,Nat.zero_add,dT,toNat_0,toNat_1,Nat.sub_zero,dZ,ef,eF,eG,dM,dY,dV,eg]
  conv=>whnf
  refine ⟨by show i < nl A; omega,?_⟩
  conv=>whnf
  refine ⟨(rem,an A i,d),rfl,⟨fp,hl,hp.2.2⟩,?_⟩;have q8:rem*4294967296+an A i=t:=ht.symm;simp only [Cr,q8];conv=>whnf
  refine ⟨⟨by omega,by omega⟩,?_⟩
  try simp (disch:=omega) only [ay,bL,db,dD,cf,dU,dv,dW,c5,dh,dt,dB,dw,dK,toNat_cast,aB,Nat.zero_add,dT,toNat_0,toNat_1,Nat.sub_zero,dZ,ef,eF,eG,dM,dY,dV,eg]
  conv=>whnf
  refine ⟨by show i < nl A; omega,?_⟩
  conv=>whnf
  rw [fw al];refine .inl ⟨_,?_,i,t % d,cF Y i (t / d),(.aa (.aa (.sk 4 (.aa (.aa (.aa (.sk 26 .nil rfl)))) rfl))),rfl,rfl,?_⟩
  ·omega
  ·exact ⟨by omega,ax.1.symm,by rw [hY]; exact hse⟩
 ·have h1:i=0:=by
   rcases Nat.eq_zero_or_pos i with h | h
   ·exact h
   ·have e:IntKind.i64.wrap ((i:Int) - 1)=((i - 1:Nat):Int):=by rw [ay (by omega) (by omega)]; omega
    rw [e] at h1;exact absurd h1 (by simp)
  subst h1;rw [Nat.pow_zero,Nat.div_one] at hr hY;rw [Nat.mul_one] at hY;subst hr hY;have al:A / d < B ^ nl A:=Nat.lt_of_le_of_lt (Nat.div_le_self _ _) (bW A);have hle:=jD al;conv=>whnf
  refine ⟨some (nl A,A / d,nl A),[1],rfl,⟨al,by omega⟩,?_⟩
  conv=>whnf
  refine ⟨ar.aE (fun h=>by cases h) (fun r hr=>rfl),?_⟩
  conv=>whnf
  refine ⟨_,rfl,?_⟩;conv=>whnf
  refine ⟨1,?_⟩;conv=>whnf
  refine ⟨⟨rfl,⟨(fun h=>⟨rfl,rfl⟩),rfl,Nat.le_refl _,fun _ _=>rfl,fun r hr v hv=>dC (l:=bo (A / d) r) rfl v hv⟩⟩,_,rfl,?_⟩
  exact .two (.cap _ _ _ rfl) (.refl _)
theorem Wn:dk Tryz.prog 185 Cv:=by
 refine eI Im aP Tryz.func185 (enters_of Tryz.func185 (by kernel_rfl) rfl) ?_ ?_ ?_
 ·intro i b hb; simp [Cv,dN] at hb; rcases hb with rfl | rfl <;> rfl
 ·intro i b hb; simp [Cv] at hb; rw [← hb]; rfl
 intro ⟨A,ca,s⟩ hp;have hp:nl A≤137438953472∧s≤31:=hp;conv=>whnf
 have e1:IntKind.i64.wrap (((nl A:Nat):Int)+1)=((nl A+1:Nat):Int):=by rw [ay (by omega) (by omega)]; rfl
 simp only [e1];refine ⟨⟨by omega,by omega,by show ((nl A+1:Nat):Int)*((4:Nat):Int)≤_; omega⟩,?_⟩
 simp only [toNat_cast,tD];conv=>whnf
 refine .inl ⟨fun mm tz hz=>∃ (i:Nat) (Y:Nat),bB (some (.slice (some ⟨0,0,none⟩) (nl A) ca)::some (.int .i64 s)::aG 3 (some (.slice (some ⟨1,0,none⟩) (nl A+1) (nl A+1))::aG 7 (some (.slice (some ⟨0,0,none⟩) (nl A) ca)::some (.int .i64 (nl A))::some (.int .i64 i)::aG 25 []))) tz∧hz=[some (.flat false (nl A) 1 (bo A)),some (.flat true (nl A+1) 1 (bo Y))]∧nl A - i=mm∧(i≤nl A∧Y=A % B ^ i*2 ^ s),.inl ⟨_,0,0,(.aa (.aa (.sk 3 (.aa (.sk 7 (.aa (.aa (.aa (.sk 25 .nil rfl)))) rfl)) rfl))),rfl,rfl,?_⟩,?_⟩
 ·exact ⟨Nat.zero_le _,by simp [Nat.mod_one]⟩
 rintro mm aW _ ⟨i,Y,aC,rfl,rfl,⟨hi,hY⟩⟩
 obtain ⟨az,rfl⟩:∃ az:Nat→Value,aW=.slice (some ⟨0,0,none⟩) (nl A) ca::.int .i64 s::zs az 2 3 (.slice (some ⟨1,0,none⟩) (nl A+1) (nl A+1)::zs az 6 7 (.slice (some ⟨0,0,none⟩) (nl A) ca::.int .i64 (nl A)::.int .i64 i::zs az 16 25 [])):=bI aC;clear aC;conv=>whnf
 refine aN (fun h1=>?_) (fun h1=>?_)
 ·have h1:i < nl A:=by simpa using h1
  have hl:=cI A i;have hu:an Y i < 2 ^ s:=by rw [hY]; exact Lb
  have Jj:=ZD (l:=an A i) hp.2 hu;have aea:=OW (l:=an A i) hp.2 hu;have ax:=SU (A:=A) (i:=i) hp.2;rw [← hY] at ax;have J:=wB hp.2;have QT:an A i*2 ^ s / B < B:=by
   refine (Nat.div_lt_iff_lt_mul (by decide)).2 ?_
   exact Nat.mul_lt_mul_of_lt_of_le hl (by show _≤4294967296; omega) (by decide)
  conv=>whnf
  refine ⟨⟨by omega,by omega⟩,?_⟩
  try simp (disch:=omega) only [ay,bL,db,dD,cf,dU,dv,dW,c5,dh,dt,dB,dw,dK,toNat_cast,aB,Nat.zero_add,dT,toNat_0,toNat_1,Nat.sub_zero,dZ,ef,eF,eG,dM,dY,dV,eg]
  conv=>whnf
  refine ⟨by show i < nl A; omega,?_⟩
  conv=>whnf
  have kd:IntKind.u64.wrap ((an A i:Nat):Int)=((an A i:Nat):Int):=bL (by omega) (by have:B=4294967296:=rfl; omega)
  have hv:=WQ hp.2 hl;have QU:an A i*2 ^ s / B % B=an A i*2 ^ s / B:=Nat.mod_eq_of_lt QT;have e3:IntKind.i64.wrap (((i:Nat):Int)+1)=((i+1:Nat):Int):=by rw [ay (by omega) (by omega)]; rfl
  simp only [toNat_cast,kd,hv];refine ⟨⟨by omega,by omega⟩,?_⟩
  simp only [toNat_cast,aB,Nat.zero_add];conv=>whnf
  refine ⟨by show i < nl A+1; omega,?_⟩
  conv=>whnf
  simp only [eJ,Jj,e3,cf,jE,QU];refine ⟨⟨by omega,by omega⟩,?_⟩
  simp only [toNat_cast,aB,Nat.zero_add];conv=>whnf
  refine ⟨by show i < nl A+1; omega,?_⟩
  conv=>whnf
  rw [fw aea];simp only [e3,cf,jE,eJ,QU];refine ⟨⟨by omega,by omega⟩,?_⟩
  simp only [toNat_cast,aB,Nat.zero_add];conv=>whnf
  refine ⟨by show i+1 < nl A+1; omega,?_⟩
  conv=>whnf
  rw [fw QT,ax];simp only [e3];refine .inl ⟨_,?_,i+1,A % B ^ (i+1)*2 ^ s,(.aa (.aa (.sk 3 (.aa (.sk 7 (.aa (.aa (.aa (.sk 25 .nil rfl)))) rfl)) rfl))),rfl,rfl,?_⟩
  ·omega
  ·exact ⟨by omega,rfl⟩
 ·have h1:i=nl A:=by
   have h1:¬ i < nl A:=by simpa using h1
   omega
  subst h1;rw [Nat.mod_eq_of_lt (bW A)] at hY;subst hY;conv=>whnf
  refine ⟨1,?_⟩;conv=>whnf
  refine ⟨⟨rfl,⟨(fun h=>⟨rfl,rfl⟩),rfl,Nat.le_refl _,fun _ _=>rfl,fun r hr v hv=>dC (l:=bo (A*2 ^ s) r) rfl v hv⟩⟩,_,rfl,?_⟩
  exact .refl _
theorem TD:dk Tryz.prog 187 BE:=by
 refine eI Im aP Tryz.func187 (enters_of Tryz.func187 (by kernel_rfl) rfl) ?_ ?_ ?_
 ·intro i b hb; simp [BE,dN] at hb; rcases hb with rfl | rfl <;> rfl
 ·intro i b hb; simp [BE] at hb; rw [← hb]; rfl
 intro ⟨A,ca,s⟩ hp;have hp:nl A≤137438953472∧s≤31:=hp;conv=>whnf
 refine ⟨⟨by omega,by omega,by show ((nl A:Nat):Int)*((4:Nat):Int)≤_; omega⟩,?_⟩
 simp only [toNat_cast,tD];conv=>whnf
 refine .inl ⟨fun mm tz hz=>∃ (i:Nat) (Y:Nat),bB (some (.slice (some ⟨0,0,none⟩) (nl A) ca)::some (.int .i64 s)::aG 3 (some (.slice (some ⟨1,0,none⟩) (nl A) (nl A))::aG 6 (some (.int .i64 (nl A))::some (.int .i64 i)::aG 31 []))) tz∧hz=[some (.flat false (nl A) 1 (bo A)),some (.flat true (nl A) 1 (bo Y))]∧nl A - i=mm∧(i≤nl A∧Y=A / 2 ^ s % B ^ i),.inl ⟨_,0,0,(.aa (.aa (.sk 3 (.aa (.sk 6 (.aa (.aa (.sk 31 .nil rfl))) rfl)) rfl))),rfl,rfl,?_⟩,?_⟩
 ·exact ⟨Nat.zero_le _,by simp [Nat.mod_one]⟩
 rintro mm aW _ ⟨i,Y,aC,rfl,rfl,⟨hi,hY⟩⟩
 obtain ⟨az,rfl⟩:∃ az:Nat→Value,aW=.slice (some ⟨0,0,none⟩) (nl A) ca::.int .i64 s::zs az 2 3 (.slice (some ⟨1,0,none⟩) (nl A) (nl A)::zs az 6 6 (.int .i64 (nl A)::.int .i64 i::zs az 14 31 [])):=bI aC;clear aC;conv=>whnf
 refine aN (fun h1=>?_) (fun h1=>?_)
 ·have h1:i < nl A:=by simpa using h1
  have hl:=cI A i;have iV:an A (i+1) < B:=cI A (i+1);have e3:IntKind.i64.wrap (((i:Nat):Int)+1)=((i+1:Nat):Int):=by rw [ay (by omega) (by omega)]; rfl
  have kd:IntKind.u64.wrap ((an A i:Nat):Int)=((an A i:Nat):Int):=bL (by omega) (by have:B=4294967296:=rfl; omega)
  have aeb:IntKind.u64.wrap ((an A (i+1):Nat):Int)=((an A (i+1):Nat):Int):=bL (by omega) (by have:B=4294967296:=rfl; omega)
  have hd:=RK (A:=A) (i:=i) hp.2;have DT:cF Y i (an (A / 2 ^ s) i)=A / 2 ^ s % B ^ (i+1):=by
   rw [mod_succ,← hY];exact AZ (by rw [hY]; exact Nat.mod_lt _ (eE i))
  conv=>whnf
  refine ⟨⟨by omega,by omega⟩,?_⟩
  try simp (disch:=omega) only [ay,bL,db,dD,cf,dU,dv,dW,c5,dh,dt,dB,dw,dK,toNat_cast,aB,Nat.zero_add,dT,toNat_0,toNat_1,Nat.sub_zero,dZ,ef,eF,eG,dM,dY,dV,eg]
  conv=>whnf
  refine ⟨by show i < nl A; omega,?_⟩
  conv=>whnf
  simp only [e3,kd];refine aN (fun J=>?_) (fun J=>?_)
  ·have J:i+1 < nl A:=by
    have J:=of_decide_eq_true J;omega
   conv=>whnf
   simp only [e3];refine ⟨⟨by omega,by omega⟩,?_⟩
   simp only [toNat_cast,aB,Nat.zero_add];conv=>whnf
   refine ⟨by show i+1 < nl A; omega,?_⟩
   conv=>whnf
   have qO:IntKind.u64.wrap (((an A (i+1):Nat):Int)*4294967296)=((an A (i+1):Nat):Int)*4294967296:=bL (by omega) (by have:B=4294967296:=rfl; omega)
   simp only [aeb,dv,qO,Vv iV hl];simp only [Nv hp.2,toNat_cast,eJ];refine ⟨⟨by omega,by omega⟩,?_⟩
   simp only [toNat_cast,aB,Nat.zero_add];conv=>whnf
   refine ⟨by show i < nl A; omega,?_⟩
   conv=>whnf
   simp only [e3,← hd];rw [fw (cI (A / 2 ^ s) i),DT];refine .inl ⟨_,?_,i+1,A / 2 ^ s % B ^ (i+1),(.aa (.aa (.sk 3 (.aa (.sk 6 (.aa (.aa (.sk 31 .nil rfl))) rfl)) rfl))),rfl,rfl,?_⟩
   ·omega
   ·exact ⟨by omega,rfl⟩
  ·have J:nl A≤i+1:=by
    have J:=of_decide_eq_false J;omega
   have h0:=tU (bW A) J;rw [h0,Nat.zero_mul,Nat.add_zero] at hd;conv=>whnf
   simp only [Nv hp.2,toNat_cast,eJ];refine ⟨⟨by omega,by omega⟩,?_⟩
   simp only [toNat_cast,aB,Nat.zero_add];conv=>whnf
   refine ⟨by show i < nl A; omega,?_⟩
   conv=>whnf
   simp only [e3,← hd];rw [fw (cI (A / 2 ^ s) i),DT];refine .inl ⟨_,?_,i+1,A / 2 ^ s % B ^ (i+1),(.aa (.aa (.sk 3 (.aa (.sk 6 (.aa (.aa (.sk 31 .nil rfl))) rfl)) rfl))),rfl,rfl,?_⟩
   ·omega
   ·exact ⟨by omega,rfl⟩
 ·have h1:i=nl A:=by
   have h1:¬ i < nl A:=by simpa using h1
   omega
  subst h1;have al:A / 2 ^ s < B ^ nl A:=Nat.lt_of_le_of_lt (Nat.div_le_self _ _) (bW A);have hle:=jD al;rw [Nat.mod_eq_of_lt al] at hY;subst hY;conv=>whnf
  refine ⟨some (nl A,A / 2 ^ s,nl A),[1],rfl,⟨al,by omega⟩,?_⟩
  conv=>whnf
  refine ⟨ar.aE (fun h=>by cases h) (fun r hr=>rfl),?_⟩
  conv=>whnf
  refine ⟨_,rfl,?_⟩;conv=>whnf
  refine ⟨1,?_⟩;conv=>whnf
  refine ⟨⟨rfl,⟨(fun h=>⟨rfl,rfl⟩),rfl,Nat.le_refl _,fun _ _=>rfl,fun r hr v hv=>dC (l:=bo (A / 2 ^ s) r) rfl v hv⟩⟩,_,rfl,?_⟩
  exact .cap _ _ _ rfl
end Go.Proofs.YtlapbjdhekcipaaGreat
